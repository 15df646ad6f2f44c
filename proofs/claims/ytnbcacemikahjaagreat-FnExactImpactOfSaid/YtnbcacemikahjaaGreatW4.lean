/-
  Each Go function does what its plain function says: written by a program of ours.
-/
import Derived.Test.YtnbcacemikahjaaGreatW3
import Derived.Test.YtnbcacemikahjaaGreatProg
import Derived.Test.YtnbcacemikahjaaGreatPenK
import Derived.Test.YtnbcacemikahjaaGreatPenQ
import Derived.Test.YtnbcacemikahjaaGreatPenU
namespace Go.Pen
open Go.Proofs Go.RowKit
set_option linter.unusedVariables false
set_option linter.unusedSimpArgs false
set_option maxRecDepth 100000
set_option maxHeartbeats 4000000

theorem c_laws_markSeries {W : World} {x0 : Series} {a0_0 : Option Addr} {c0_0 : Nat} {e0_0 : TypeId} {x1 : Int} {r : Int × (List Point)} (h : laws_markSeries x0 x1 = some r)  :
    GivesM Tryz.prog 79 #[vSeries x0 (a0_0, c0_0), .int .i64 x1] W [SlRes e0_0 x0.Points a0_0 c0_0] [SlRes e0_0 r.2 a0_0 c0_0] (.int .i64 r.1) := by
 unfold laws_markSeries at h
 refine enM Tryz.func79 Tryz.ntmps79 (fun Fs => ?_)
 refine qs (qr (oB 2 [(2, .p 0 0)] [0, 1] [(48, (eSeries x0 (a0_0, c0_0)))] ?_))
 refine oe (nt (qs (qr (oN 3 [(7, vi x1), (6, .v (.slice a0_0 x0.Points.length c0_0))] [0] ?_))))
 obtain ⟨t21, h22, h23⟩ := bS h
 obtain ⟨u25, hu26, h27⟩ := bS h23
 have hl28 := (sameLen_some hu26).symm
 refine JO_callM rfl (by kernel_rfl) (f := 128) (args := #[.slice a0_0 x0.Points.length c0_0, .int .i64 x1]) (by kernel_rfl) (x := .int .i64 t21.1) (Rin := [SlRes e0_0 x0.Points a0_0 c0_0]) (Rout := [SlRes e0_0 t21.2 a0_0 c0_0]) (Rr := []) rfl (fun w => (by have vv := c_laws_markPointS (e0_0 := e0_0) (a0_0 := a0_0) (c0_0 := c0_0) (W := w) h22; exact vv)) (sl' := [(8, vi t21.1), (7, vi x1), (6, .v (.slice a0_0 x0.Points.length c0_0)), (0, .v (vSeries x0 (a0_0, c0_0)))]) (by kernel_rfl) ?_
 refine JO_eqE (sl' := [(8, vi t21.1), (7, vi x1), (6, .v (.slice a0_0 t21.2.length c0_0)), (0, .v (.agg #[.slice a0_0 t21.2.length c0_0]))]) (bx' := [(48, [.slice a0_0 t21.2.length c0_0])]) (by simp only [eSeries, vSeries, hl28]) (by simp only [eSeries, vSeries, hl28]) ?_
 refine oN 1 [(1, vi t21.1)] [0] ?_
 refine oe (nt (qs (qr (oN 2 [(4, vi t21.1)] [0] ?_))))
 refine oe (nt (qe (rt [.int .i64 t21.1] (fun γ w hs => ?_))))
 rw [← sI h27]
 exact hs.turned (is := [0]) rfl

theorem c_laws_markSpellS {W : World} {x0 : List Spell} {a0_0 : Option Addr} {c0_0 : Nat} {e0_0 : TypeId} {x1 : Int} {r : Int × (List Spell)} (h : laws_markSpellS x0 x1 = some r)  :
    GivesM Tryz.prog 129 #[.slice a0_0 x0.length c0_0, .int .i64 x1] W [SlRes e0_0 x0 a0_0 c0_0] [SlRes e0_0 r.2 a0_0 c0_0] (.int .i64 r.1) := by
 unfold laws_markSpellS at h
 refine enM Tryz.func129 Tryz.ntmps129 (fun Fs => ?_)
 refine qs (qr (oN 1 [] [0, 1] ?_))
 refine oe (nt (qs (qs (qr (oN 1 [(5, vi 0)] [0, 1] ?_)))))
 refine oe (nt ?_)
 obtain ⟨r24, hL25, h26⟩ := bS h
 obtain ⟨k27, hk28, h26⟩ := brkS h26
 refine JC_cutP (τ := ((List Spell) × Int) × (Unit)) (fun y => k27 y.1 = some r) (fun y32 => [(0, .v (.slice a0_0 y32.1.1.length c0_0)), (1, vi y32.1.2)]) (fun y32 => []) (fun y32 => [SlRes e0_0 y32.1.1 a0_0 c0_0]) ?_ (fun y32 h33p => ?_)
 · refine qb (lp Unit hL25 (fun s21 y22 => [(5, vi s21.1), (0, .v (.slice a0_0 s21.2.1.length c0_0)), (1, vi s21.2.2)]) (fun s21 y22 => []) (fun s21 y22 => [SlRes e0_0 s21.2.1 a0_0 c0_0]) () [5, 0, 1] [0] 0 (fun s21 y22 t23 h29 hd30 => ?_))
   refine qs (qs (qr (oN 4 [(9, vb (decide (s21.1 < (s21.2.1.length : Int))))] [5, 0, 1] ?_)))
   refine oe (nt (cC h29 (fun h35 => ?_) (fun h36 => ?_)))
   · refine qk (nt (qs (qb (qs (qr (oN 3 [(14, vi s21.2.2), (13, vi s21.1), (12, .v (.slice a0_0 s21.2.1.length c0_0))] [5, 0, 1] ?_))))))
     obtain ⟨x37, hx38, h39⟩ := bS h35
     refine oi 4 (fun γ w hs => (hs.view 0 rfl)) hx38 ?_
     refine oN 1 [(16, .q a0_0 (Int.toNat s21.1 * 4))] [14, 5, 0, 1] ?_
     obtain ⟨l40, hm41, h42⟩ := bS h39
     replace hm41 := (sI hm41).symm
     refine JO_storeq (α := Spell) (d := a0_0) (vs := [.int .i64 s21.2.2]) (j := s21.1) (x' := (Spell.mk s21.2.2 x37.To x37.Percent x37.Leave)) rfl (by kernel_rfl) 0 (by kernel_rfl) hx38 (Rc := []) (Rr := []) rfl (by kernel_rfl) (fun w c F Fs ho _ _ => own_flat_set (by kernel_rfl) ho) hm41 rfl ?_
     have hl43 := len_set hm41
     refine JO_keep [14, 5, 0, 1] (sl' := [(14, vi s21.2.2), (5, vi s21.1), (0, .v (.slice a0_0 s21.2.1.length c0_0)), (1, vi s21.2.2)]) (by kernel_rfl) ?_
     refine JO_eqE (sl' := [(14, vi s21.2.2), (5, vi s21.1), (0, .v (.slice a0_0 l40.length c0_0)), (1, vi s21.2.2)]) (bx' := []) (by simp only [hl43]) rfl ?_
     refine oe (nt (qs (qr (oN 3 [(1, vi (w64 (s21.2.2 + 1)))] [5, 0] ?_))))
     refine oe (nt (qs (qr (oN 3 [(21, vi (w64 (s21.2.2 + 1))), (20, vi s21.1), (19, .v (.slice a0_0 l40.length c0_0))] [1, 5, 0] ?_))))
     obtain ⟨x44, hx45, h46⟩ := bS h42
     refine oi 4 (fun γ w hs => (hs.view 0 rfl)) hx45 ?_
     refine oN 1 [(23, .q a0_0 (Int.toNat s21.1 * 4 + 1))] [21, 1, 5, 0] ?_
     obtain ⟨l47, hm48, h49⟩ := bS h46
     replace hm48 := (sI hm48).symm
     refine JO_storeq (α := Spell) (d := a0_0) (vs := [.int .i64 (w64 (s21.2.2 + 1))]) (j := s21.1) (x' := (Spell.mk x44.From (w64 (s21.2.2 + 1)) x44.Percent x44.Leave)) rfl (by kernel_rfl) 1 (by kernel_rfl) hx45 (Rc := []) (Rr := []) rfl (by kernel_rfl) (fun w c F Fs ho _ _ => own_flat_set (by kernel_rfl) ho) hm48 rfl ?_
     have hl50 := len_set hm48
     refine JO_keep [21, 1, 5, 0] (sl' := [(21, vi (w64 (s21.2.2 + 1))), (1, vi (w64 (s21.2.2 + 1))), (5, vi s21.1), (0, .v (.slice a0_0 l40.length c0_0))]) (by kernel_rfl) ?_
     refine JO_eqE (sl' := [(21, vi (w64 (s21.2.2 + 1))), (1, vi (w64 (s21.2.2 + 1))), (5, vi s21.1), (0, .v (.slice a0_0 l47.length c0_0))]) (bx' := []) (by simp only [hl50]) rfl ?_
     refine oe (nt (qs (qr (oN 3 [(1, vi (w64 ((w64 (s21.2.2 + 1)) + 1)))] [5, 0] ?_))))
     refine oe (nt (qs (qr (oN 3 [(28, vi (w64 ((w64 (s21.2.2 + 1)) + 1))), (27, vi s21.1), (26, .v (.slice a0_0 l47.length c0_0))] [1, 5, 0] ?_))))
     obtain ⟨x51, hx52, h53⟩ := bS h49
     refine oi 4 (fun γ w hs => (hs.view 0 rfl)) hx52 ?_
     refine oN 1 [(30, .q a0_0 (Int.toNat s21.1 * 4 + 2))] [28, 1, 5, 0] ?_
     obtain ⟨l54, hm55, h56⟩ := bS h53
     replace hm55 := (sI hm55).symm
     refine JO_storeq (α := Spell) (d := a0_0) (vs := [.int .i64 (w64 ((w64 (s21.2.2 + 1)) + 1))]) (j := s21.1) (x' := (Spell.mk x51.From x51.To (w64 ((w64 (s21.2.2 + 1)) + 1)) x51.Leave)) rfl (by kernel_rfl) 2 (by kernel_rfl) hx52 (Rc := []) (Rr := []) rfl (by kernel_rfl) (fun w c F Fs ho _ _ => own_flat_set (by kernel_rfl) ho) hm55 rfl ?_
     have hl57 := len_set hm55
     refine JO_keep [28, 1, 5, 0] (sl' := [(28, vi (w64 ((w64 (s21.2.2 + 1)) + 1))), (1, vi (w64 ((w64 (s21.2.2 + 1)) + 1))), (5, vi s21.1), (0, .v (.slice a0_0 l47.length c0_0))]) (by kernel_rfl) ?_
     refine JO_eqE (sl' := [(28, vi (w64 ((w64 (s21.2.2 + 1)) + 1))), (1, vi (w64 ((w64 (s21.2.2 + 1)) + 1))), (5, vi s21.1), (0, .v (.slice a0_0 l54.length c0_0))]) (bx' := []) (by simp only [hl57]) rfl ?_
     refine oe (nt (qs (qr (oN 3 [(1, vi (w64 ((w64 ((w64 (s21.2.2 + 1)) + 1)) + 1)))] [5, 0] ?_))))
     refine oe (nt (qs (qr (oN 5 [(37, vb ((Int.tmod (w64 ((w64 ((w64 (s21.2.2 + 1)) + 1)) + 1)) 3) == 0)), (34, vi s21.1), (33, .v (.slice a0_0 l54.length c0_0))] [1, 5, 0] ?_))))
     obtain ⟨x58, hx59, h60⟩ := bS h56
     refine oi 4 (fun γ w hs => (hs.view 0 rfl)) hx59 ?_
     refine oN 1 [(39, .q a0_0 (Int.toNat s21.1 * 4 + 3))] [37, 1, 5, 0] ?_
     obtain ⟨l61, hm62, h63⟩ := bS h60
     replace hm62 := (sI hm62).symm
     refine JO_storeq (α := Spell) (d := a0_0) (vs := [.bool ((Int.tmod (w64 ((w64 ((w64 (s21.2.2 + 1)) + 1)) + 1)) 3) == 0)]) (j := s21.1) (x' := (Spell.mk x58.From x58.To x58.Percent ((Int.tmod (w64 ((w64 ((w64 (s21.2.2 + 1)) + 1)) + 1)) 3) == 0))) rfl (by kernel_rfl) 3 (by kernel_rfl) hx59 (Rc := []) (Rr := []) rfl (by kernel_rfl) (fun w c F Fs ho _ _ => own_flat_set (by kernel_rfl) ho) hm62 rfl ?_
     have hl64 := len_set hm62
     refine JO_keep [37, 1, 5, 0] (sl' := [(37, vb ((Int.tmod (w64 ((w64 ((w64 (s21.2.2 + 1)) + 1)) + 1)) 3) == 0)), (1, vi (w64 ((w64 ((w64 (s21.2.2 + 1)) + 1)) + 1))), (5, vi s21.1), (0, .v (.slice a0_0 l54.length c0_0))]) (by kernel_rfl) ?_
     refine JO_eqE (sl' := [(37, vb ((Int.tmod (w64 ((w64 ((w64 (s21.2.2 + 1)) + 1)) + 1)) 3) == 0)), (1, vi (w64 ((w64 ((w64 (s21.2.2 + 1)) + 1)) + 1))), (5, vi s21.1), (0, .v (.slice a0_0 l61.length c0_0))]) (bx' := []) (by simp only [hl64]) rfl ?_
     refine oe (nt (qr (oN 3 [(1, vi (w64 ((w64 ((w64 ((w64 (s21.2.2 + 1)) + 1)) + 1)) + 1)))] [5, 0] ?_)))
     refine oe (bn (nt (qr (oN 3 [(5, vi (w64 (s21.1 + 1)))] [1, 0] ?_))))
     exact oe (ct h63 () [5, 0, 1] [0] 0)
   refine qx (nx (nx (bh ?_)))
   have h65 := leafB hd30 h36 h26
   exact mp ((s21.2.1, s21.2.2), ()) h65 [0, 1] [0] 0
 have h33 := (congrFun hk28 _).symm.trans h33p
 refine nt (qs (qr (oN 2 [(4, vi y32.1.2)] [0] ?_)))
 refine oe (nt (qe (rt [.int .i64 y32.1.2] (fun γ w hs => ?_))))
 rw [← sI h33]
 exact hs.turned (is := [0]) rfl

theorem c_laws_markEventS {W : World} {x0 : List Event} {a0_0 : Option Addr} {c0_0 : Nat} {e0_0 : TypeId} {x1 : Int} {r : Int × (List Event)} (h : laws_markEventS x0 x1 = some r)  :
    GivesM Tryz.prog 130 #[.slice a0_0 x0.length c0_0, .int .i64 x1] W [SlRes e0_0 x0 a0_0 c0_0] [SlRes e0_0 r.2 a0_0 c0_0] (.int .i64 r.1) := by
 unfold laws_markEventS at h
 refine enM Tryz.func130 Tryz.ntmps130 (fun Fs => ?_)
 refine qs (qr (oN 1 [] [0, 1] ?_))
 refine oe (nt (qs (qs (qr (oN 1 [(5, vi 0)] [0, 1] ?_)))))
 refine oe (nt ?_)
 obtain ⟨r24, hL25, h26⟩ := bS h
 obtain ⟨k27, hk28, h26⟩ := brkS h26
 refine JC_cutP (τ := ((List Event) × Int) × (Unit)) (fun y => k27 y.1 = some r) (fun y32 => [(0, .v (.slice a0_0 y32.1.1.length c0_0)), (1, vi y32.1.2)]) (fun y32 => []) (fun y32 => [SlRes e0_0 y32.1.1 a0_0 c0_0]) ?_ (fun y32 h33p => ?_)
 · refine qb (lp Unit hL25 (fun s21 y22 => [(5, vi s21.1), (0, .v (.slice a0_0 s21.2.1.length c0_0)), (1, vi s21.2.2)]) (fun s21 y22 => []) (fun s21 y22 => [SlRes e0_0 s21.2.1 a0_0 c0_0]) () [5, 0, 1] [0] 0 (fun s21 y22 t23 h29 hd30 => ?_))
   refine qs (qs (qr (oN 4 [(9, vb (decide (s21.1 < (s21.2.1.length : Int))))] [5, 0, 1] ?_)))
   refine oe (nt (cC h29 (fun h35 => ?_) (fun h36 => ?_)))
   · refine qk (nt (qs (qb (qs (qr (oN 3 [(14, vi s21.2.2), (13, vi s21.1), (12, .v (.slice a0_0 s21.2.1.length c0_0))] [5, 0, 1] ?_))))))
     obtain ⟨x37, hx38, h39⟩ := bS h35
     refine oi 2 (fun γ w hs => (hs.view 0 rfl)) hx38 ?_
     refine oN 1 [(16, .q a0_0 (Int.toNat s21.1 * 2))] [14, 5, 0, 1] ?_
     obtain ⟨l40, hm41, h42⟩ := bS h39
     replace hm41 := (sI hm41).symm
     refine JO_storeq (α := Event) (d := a0_0) (vs := [.int .i64 s21.2.2]) (j := s21.1) (x' := (Event.mk s21.2.2 x37.Month)) rfl (by kernel_rfl) 0 (by kernel_rfl) hx38 (Rc := []) (Rr := []) rfl (by kernel_rfl) (fun w c F Fs ho _ _ => own_flat_set (by kernel_rfl) ho) hm41 rfl ?_
     have hl43 := len_set hm41
     refine JO_keep [14, 5, 0, 1] (sl' := [(14, vi s21.2.2), (5, vi s21.1), (0, .v (.slice a0_0 s21.2.1.length c0_0)), (1, vi s21.2.2)]) (by kernel_rfl) ?_
     refine JO_eqE (sl' := [(14, vi s21.2.2), (5, vi s21.1), (0, .v (.slice a0_0 l40.length c0_0)), (1, vi s21.2.2)]) (bx' := []) (by simp only [hl43]) rfl ?_
     refine oe (nt (qs (qr (oN 3 [(1, vi (w64 (s21.2.2 + 1)))] [5, 0] ?_))))
     refine oe (nt (qs (qr (oN 3 [(21, vi (w64 (s21.2.2 + 1))), (20, vi s21.1), (19, .v (.slice a0_0 l40.length c0_0))] [1, 5, 0] ?_))))
     obtain ⟨x44, hx45, h46⟩ := bS h42
     refine oi 2 (fun γ w hs => (hs.view 0 rfl)) hx45 ?_
     refine oN 1 [(23, .q a0_0 (Int.toNat s21.1 * 2 + 1))] [21, 1, 5, 0] ?_
     obtain ⟨l47, hm48, h49⟩ := bS h46
     replace hm48 := (sI hm48).symm
     refine JO_storeq (α := Event) (d := a0_0) (vs := [.int .i64 (w64 (s21.2.2 + 1))]) (j := s21.1) (x' := (Event.mk x44.Kind (w64 (s21.2.2 + 1)))) rfl (by kernel_rfl) 1 (by kernel_rfl) hx45 (Rc := []) (Rr := []) rfl (by kernel_rfl) (fun w c F Fs ho _ _ => own_flat_set (by kernel_rfl) ho) hm48 rfl ?_
     have hl50 := len_set hm48
     refine JO_keep [21, 1, 5, 0] (sl' := [(21, vi (w64 (s21.2.2 + 1))), (1, vi (w64 (s21.2.2 + 1))), (5, vi s21.1), (0, .v (.slice a0_0 l40.length c0_0))]) (by kernel_rfl) ?_
     refine JO_eqE (sl' := [(21, vi (w64 (s21.2.2 + 1))), (1, vi (w64 (s21.2.2 + 1))), (5, vi s21.1), (0, .v (.slice a0_0 l47.length c0_0))]) (bx' := []) (by simp only [hl50]) rfl ?_
     refine oe (nt (qr (oN 3 [(1, vi (w64 ((w64 (s21.2.2 + 1)) + 1)))] [5, 0] ?_)))
     refine oe (bn (nt (qr (oN 3 [(5, vi (w64 (s21.1 + 1)))] [1, 0] ?_))))
     exact oe (ct h49 () [5, 0, 1] [0] 0)
   refine qx (nx (nx (bh ?_)))
   have h51 := leafB hd30 h36 h26
   exact mp ((s21.2.1, s21.2.2), ()) h51 [0, 1] [0] 0
 have h33 := (congrFun hk28 _).symm.trans h33p
 refine nt (qs (qr (oN 2 [(4, vi y32.1.2)] [0] ?_)))
 refine oe (nt (qe (rt [.int .i64 y32.1.2] (fun γ w hs => ?_))))
 rw [← sI h33]
 exact hs.turned (is := [0]) rfl

theorem c_laws_markMember {W : World} {x0 : Member} {a0_0 : Option Addr} {c0_0 : Nat} {e0_0 : TypeId} {a0_1 : Option Addr} {c0_1 : Nat} {e0_1 : TypeId} {x1 : Int} {r : Int × (List Spell) × (List Event)} (h : laws_markMember x0 x1 = some r)  :
    GivesM Tryz.prog 80 #[vMember x0 ((a0_0, c0_0), (a0_1, c0_1)), .int .i64 x1] W [SlRes e0_0 x0.Spells a0_0 c0_0, SlRes e0_1 x0.Events a0_1 c0_1] [SlRes e0_0 r.2.1 a0_0 c0_0, SlRes e0_1 r.2.2 a0_1 c0_1] (.int .i64 r.1) := by
 unfold laws_markMember at h
 refine enM Tryz.func80 Tryz.ntmps80 (fun Fs => ?_)
 refine qs (qr (oB 2 [(2, .p 0 0)] [0, 1] [(52, (eMember x0 ((a0_0, c0_0), (a0_1, c0_1))))] ?_))
 refine oe (nt (qs (qr (oN 3 [(7, vi x1), (6, .v (.slice a0_0 x0.Spells.length c0_0))] [2, 0] ?_))))
 obtain ⟨t21, h22, h23⟩ := bS h
 obtain ⟨u25, hu26, h27⟩ := bS h23
 have hl28 := (sameLen_some hu26).symm
 refine JO_callM rfl (by kernel_rfl) (f := 129) (args := #[.slice a0_0 x0.Spells.length c0_0, .int .i64 x1]) (by kernel_rfl) (x := .int .i64 t21.1) (Rin := [SlRes e0_0 x0.Spells a0_0 c0_0]) (Rout := [SlRes e0_0 t21.2 a0_0 c0_0]) (Rr := [SlRes e0_1 x0.Events a0_1 c0_1]) rfl (fun w => (by have vv := c_laws_markSpellS (e0_0 := e0_0) (a0_0 := a0_0) (c0_0 := c0_0) (W := w) h22; exact vv)) (sl' := [(8, vi t21.1), (7, vi x1), (6, .v (.slice a0_0 x0.Spells.length c0_0)), (2, .p 0 0), (0, .v (vMember x0 ((a0_0, c0_0), (a0_1, c0_1))))]) (by kernel_rfl) ?_
 refine JO_eqE (sl' := [(8, vi t21.1), (7, vi x1), (6, .v (.slice a0_0 t21.2.length c0_0)), (2, .p 0 0), (0, .v (vMember (Member.mk x0.Birth x0.Joined t21.2 x0.Events) ((a0_0, c0_0), (a0_1, c0_1))))]) (bx' := [(52, (eMember (Member.mk x0.Birth x0.Joined t21.2 x0.Events) ((a0_0, c0_0), (a0_1, c0_1))))]) (by simp only [eMember, vMember, hl28]) (by simp only [eMember, vMember, hl28]) ?_
 refine oN 1 [(1, vi t21.1)] [2, 0] ?_
 refine oe (nt (qs (qr (oN 3 [(11, vi t21.1), (10, .v (.slice a0_1 x0.Events.length c0_1))] [0] ?_))))
 refine or_ [1, 0] ?_
 obtain ⟨t29, h30, h31⟩ := bS h27
 obtain ⟨u33, hu34, h35⟩ := bS h31
 have hl36 := (sameLen_some hu34).symm
 refine JO_callM rfl (by kernel_rfl) (f := 130) (args := #[.slice a0_1 x0.Events.length c0_1, .int .i64 t21.1]) (by kernel_rfl) (x := .int .i64 t29.1) (Rin := [SlRes e0_1 x0.Events a0_1 c0_1]) (Rout := [SlRes e0_1 t29.2 a0_1 c0_1]) (Rr := [SlRes e0_0 t21.2 a0_0 c0_0]) rfl (fun w => (by have vv := c_laws_markEventS (e0_0 := e0_1) (a0_0 := a0_1) (c0_0 := c0_1) (W := w) h30; exact vv)) (sl' := [(12, vi t29.1), (11, vi t21.1), (10, .v (.slice a0_1 x0.Events.length c0_1)), (0, .v (vMember (Member.mk x0.Birth x0.Joined t21.2 x0.Events) ((a0_0, c0_0), (a0_1, c0_1))))]) (by kernel_rfl) ?_
 refine JO_eqE (sl' := [(12, vi t29.1), (11, vi t21.1), (10, .v (.slice a0_1 t29.2.length c0_1)), (0, .v (vMember (Member.mk x0.Birth x0.Joined t21.2 t29.2) ((a0_0, c0_0), (a0_1, c0_1))))]) (bx' := [(52, (eMember (Member.mk x0.Birth x0.Joined t21.2 t29.2) ((a0_0, c0_0), (a0_1, c0_1))))]) (by simp only [eMember, vMember, hl36]) (by simp only [eMember, vMember, hl36]) ?_
 refine oN 1 [(1, vi t29.1)] [0] ?_
 refine oe (nt (qs (qr (oN 2 [(4, vi t29.1)] [0] ?_))))
 refine oe (nt (qe (rt [.int .i64 t29.1] (fun γ w hs => ?_))))
 rw [← sI h35]
 exact hs.turned (is := [1, 0]) rfl

theorem c_laws_markCase {W : World} {x0 : Case} {a0_0 : Option Addr} {c0_0 : Nat} {e0_0 : TypeId} {a0_1 : Option Addr} {c0_1 : Nat} {e0_1 : TypeId} {a0_2 : Option Addr} {c0_2 : Nat} {e0_2 : TypeId} {a0_3 : Option Addr} {c0_3 : Nat} {e0_3 : TypeId} {a0_4 : Option Addr} {c0_4 : Nat} {e0_4 : TypeId} {x1 : Int} {r : Int × (List Rule) × (List Fact) × (List Point) × (List Spell) × (List Event)} (h : laws_markCase x0 x1 = some r)  :
    GivesM Tryz.prog 20 #[vCase x0 ((a0_0, c0_0), (a0_1, c0_1), (a0_2, c0_2), (a0_3, c0_3), (a0_4, c0_4)), .int .i64 x1] W [SlRes e0_0 x0.Book.Rules a0_0 c0_0, SlRes e0_1 x0.Store.Facts a0_1 c0_1, SlRes e0_2 x0.Series.Points a0_2 c0_2, SlRes e0_3 x0.Member.Spells a0_3 c0_3, SlRes e0_4 x0.Member.Events a0_4 c0_4] [SlRes e0_0 r.2.1 a0_0 c0_0, SlRes e0_1 r.2.2.1 a0_1 c0_1, SlRes e0_2 r.2.2.2.1 a0_2 c0_2, SlRes e0_3 r.2.2.2.2.1 a0_3 c0_3, SlRes e0_4 r.2.2.2.2.2 a0_4 c0_4] (.int .i64 r.1) := by
 unfold laws_markCase at h
 refine enM Tryz.func20 Tryz.ntmps20 (fun Fs => ?_)
 refine qs (qr (oB 2 [(2, .p 0 0)] [0, 1] [(54, (eCase x0 ((a0_0, c0_0), (a0_1, c0_1), (a0_2, c0_2), (a0_3, c0_3), (a0_4, c0_4))))] ?_))
 refine oe (nt (qs (qr (oN 3 [(7, vi x1), (6, .v (vBook x0.Book (a0_0, c0_0)))] [2, 0] ?_))))
 obtain ⟨t21, h22, h23⟩ := bS h
 obtain ⟨u25, hu26, h27⟩ := bS h23
 have hl28 := (sameLen_some hu26).symm
 refine JO_callM rfl (by kernel_rfl) (f := 77) (args := #[vBook x0.Book (a0_0, c0_0), .int .i64 x1]) (by kernel_rfl) (x := .int .i64 t21.1) (Rin := [SlRes e0_0 x0.Book.Rules a0_0 c0_0]) (Rout := [SlRes e0_0 t21.2 a0_0 c0_0]) (Rr := [SlRes e0_1 x0.Store.Facts a0_1 c0_1, SlRes e0_2 x0.Series.Points a0_2 c0_2, SlRes e0_3 x0.Member.Spells a0_3 c0_3, SlRes e0_4 x0.Member.Events a0_4 c0_4]) rfl (fun w => (by have vv := c_laws_markBook (e0_0 := e0_0) (a0_0 := a0_0) (c0_0 := c0_0) (W := w) h22; exact vv)) (sl' := [(8, vi t21.1), (7, vi x1), (6, .v (vBook x0.Book (a0_0, c0_0))), (2, .p 0 0), (0, .v (vCase x0 ((a0_0, c0_0), (a0_1, c0_1), (a0_2, c0_2), (a0_3, c0_3), (a0_4, c0_4))))]) (by kernel_rfl) ?_
 refine JO_eqE (sl' := [(8, vi t21.1), (7, vi x1), (6, .v (vBook (Book.mk t21.2) (a0_0, c0_0))), (2, .p 0 0), (0, .v (vCase (Case.mk (Book.mk t21.2) x0.Store x0.Series x0.Member) ((a0_0, c0_0), (a0_1, c0_1), (a0_2, c0_2), (a0_3, c0_3), (a0_4, c0_4))))]) (bx' := [(54, (eCase (Case.mk (Book.mk t21.2) x0.Store x0.Series x0.Member) ((a0_0, c0_0), (a0_1, c0_1), (a0_2, c0_2), (a0_3, c0_3), (a0_4, c0_4))))]) (by simp only [eBook, eCase, vBook, vCase, hl28]) (by simp only [eCase, vCase, hl28]) ?_
 refine oN 1 [(1, vi t21.1)] [2, 0] ?_
 refine oe (nt (qs (qr (oN 3 [(11, vi t21.1), (10, .v (vStore x0.Store (a0_1, c0_1)))] [2, 0] ?_))))
 refine JO_res (R' := [SlRes e0_1 x0.Store.Facts a0_1 c0_1, SlRes e0_0 t21.2 a0_0 c0_0, SlRes e0_2 x0.Series.Points a0_2 c0_2, SlRes e0_3 x0.Member.Spells a0_3 c0_3, SlRes e0_4 x0.Member.Events a0_4 c0_4]) [1, 0, 0, 0, 0] (by kernel_rfl) ?_
 obtain ⟨t29, h30, h31⟩ := bS h27
 obtain ⟨u33, hu34, h35⟩ := bS h31
 have hl36 := (sameLen_some hu34).symm
 refine JO_callM rfl (by kernel_rfl) (f := 78) (args := #[vStore x0.Store (a0_1, c0_1), .int .i64 t21.1]) (by kernel_rfl) (x := .int .i64 t29.1) (Rin := [SlRes e0_1 x0.Store.Facts a0_1 c0_1]) (Rout := [SlRes e0_1 t29.2 a0_1 c0_1]) (Rr := [SlRes e0_0 t21.2 a0_0 c0_0, SlRes e0_2 x0.Series.Points a0_2 c0_2, SlRes e0_3 x0.Member.Spells a0_3 c0_3, SlRes e0_4 x0.Member.Events a0_4 c0_4]) rfl (fun w => (by have vv := c_laws_markStore (e0_0 := e0_1) (a0_0 := a0_1) (c0_0 := c0_1) (W := w) h30; exact vv)) (sl' := [(12, vi t29.1), (11, vi t21.1), (10, .v (vStore x0.Store (a0_1, c0_1))), (2, .p 0 0), (0, .v (vCase (Case.mk (Book.mk t21.2) x0.Store x0.Series x0.Member) ((a0_0, c0_0), (a0_1, c0_1), (a0_2, c0_2), (a0_3, c0_3), (a0_4, c0_4))))]) (by kernel_rfl) ?_
 refine JO_eqE (sl' := [(12, vi t29.1), (11, vi t21.1), (10, .v (vStore (Store.mk t29.2) (a0_1, c0_1))), (2, .p 0 0), (0, .v (vCase (Case.mk (Book.mk t21.2) (Store.mk t29.2) x0.Series x0.Member) ((a0_0, c0_0), (a0_1, c0_1), (a0_2, c0_2), (a0_3, c0_3), (a0_4, c0_4))))]) (bx' := [(54, (eCase (Case.mk (Book.mk t21.2) (Store.mk t29.2) x0.Series x0.Member) ((a0_0, c0_0), (a0_1, c0_1), (a0_2, c0_2), (a0_3, c0_3), (a0_4, c0_4))))]) (by simp only [eCase, eStore, vCase, vStore, hl36]) (by simp only [eCase, vCase, hl36]) ?_
 refine oN 1 [(1, vi t29.1)] [2, 0] ?_
 refine oe (nt (qs (qr (oN 3 [(15, vi t29.1), (14, .v (vSeries x0.Series (a0_2, c0_2)))] [2, 0] ?_))))
 refine JO_res (R' := [SlRes e0_2 x0.Series.Points a0_2 c0_2, SlRes e0_1 t29.2 a0_1 c0_1, SlRes e0_0 t21.2 a0_0 c0_0, SlRes e0_3 x0.Member.Spells a0_3 c0_3, SlRes e0_4 x0.Member.Events a0_4 c0_4]) [2, 0, 0, 0, 0] (by kernel_rfl) ?_
 obtain ⟨t37, h38, h39⟩ := bS h35
 obtain ⟨u41, hu42, h43⟩ := bS h39
 have hl44 := (sameLen_some hu42).symm
 refine JO_callM rfl (by kernel_rfl) (f := 79) (args := #[vSeries x0.Series (a0_2, c0_2), .int .i64 t29.1]) (by kernel_rfl) (x := .int .i64 t37.1) (Rin := [SlRes e0_2 x0.Series.Points a0_2 c0_2]) (Rout := [SlRes e0_2 t37.2 a0_2 c0_2]) (Rr := [SlRes e0_1 t29.2 a0_1 c0_1, SlRes e0_0 t21.2 a0_0 c0_0, SlRes e0_3 x0.Member.Spells a0_3 c0_3, SlRes e0_4 x0.Member.Events a0_4 c0_4]) rfl (fun w => (by have vv := c_laws_markSeries (e0_0 := e0_2) (a0_0 := a0_2) (c0_0 := c0_2) (W := w) h38; exact vv)) (sl' := [(16, vi t37.1), (15, vi t29.1), (14, .v (vSeries x0.Series (a0_2, c0_2))), (2, .p 0 0), (0, .v (vCase (Case.mk (Book.mk t21.2) (Store.mk t29.2) x0.Series x0.Member) ((a0_0, c0_0), (a0_1, c0_1), (a0_2, c0_2), (a0_3, c0_3), (a0_4, c0_4))))]) (by kernel_rfl) ?_
 refine JO_eqE (sl' := [(16, vi t37.1), (15, vi t29.1), (14, .v (.agg #[.slice a0_2 t37.2.length c0_2])), (2, .p 0 0), (0, .v (vCase (Case.mk (Book.mk t21.2) (Store.mk t29.2) (Series.mk t37.2) x0.Member) ((a0_0, c0_0), (a0_1, c0_1), (a0_2, c0_2), (a0_3, c0_3), (a0_4, c0_4))))]) (bx' := [(54, (eCase (Case.mk (Book.mk t21.2) (Store.mk t29.2) (Series.mk t37.2) x0.Member) ((a0_0, c0_0), (a0_1, c0_1), (a0_2, c0_2), (a0_3, c0_3), (a0_4, c0_4))))]) (by simp only [eCase, eSeries, vCase, vSeries, hl44]) (by simp only [eCase, vCase, hl44]) ?_
 refine oN 1 [(1, vi t37.1)] [2, 0] ?_
 refine oe (nt (qs (qr (oN 3 [(19, vi t37.1), (18, .v (vMember x0.Member ((a0_3, c0_3), (a0_4, c0_4))))] [0] ?_))))
 refine JO_res (R' := [SlRes e0_3 x0.Member.Spells a0_3 c0_3, SlRes e0_4 x0.Member.Events a0_4 c0_4, SlRes e0_2 t37.2 a0_2 c0_2, SlRes e0_1 t29.2 a0_1 c0_1, SlRes e0_0 t21.2 a0_0 c0_0]) [3, 3, 0, 0, 0] (by kernel_rfl) ?_
 obtain ⟨t45, h46, h47⟩ := bS h43
 obtain ⟨u49, hu50, h51⟩ := bS h47
 have hl52 := (sameLen_some hu50).symm
 obtain ⟨u53, hu54, h55⟩ := bS h51
 have hl56 := (sameLen_some hu54).symm
 refine JO_callM rfl (by kernel_rfl) (f := 80) (args := #[vMember x0.Member ((a0_3, c0_3), (a0_4, c0_4)), .int .i64 t37.1]) (by kernel_rfl) (x := .int .i64 t45.1) (Rin := [SlRes e0_3 x0.Member.Spells a0_3 c0_3, SlRes e0_4 x0.Member.Events a0_4 c0_4]) (Rout := [SlRes e0_3 t45.2.1 a0_3 c0_3, SlRes e0_4 t45.2.2 a0_4 c0_4]) (Rr := [SlRes e0_2 t37.2 a0_2 c0_2, SlRes e0_1 t29.2 a0_1 c0_1, SlRes e0_0 t21.2 a0_0 c0_0]) rfl (fun w => (by have vv := c_laws_markMember (e0_0 := e0_3) (a0_0 := a0_3) (c0_0 := c0_3) (e0_1 := e0_4) (a0_1 := a0_4) (c0_1 := c0_4) (W := w) h46; exact vv)) (sl' := [(20, vi t45.1), (19, vi t37.1), (18, .v (vMember x0.Member ((a0_3, c0_3), (a0_4, c0_4)))), (0, .v (vCase (Case.mk (Book.mk t21.2) (Store.mk t29.2) (Series.mk t37.2) x0.Member) ((a0_0, c0_0), (a0_1, c0_1), (a0_2, c0_2), (a0_3, c0_3), (a0_4, c0_4))))]) (by kernel_rfl) ?_
 refine JO_eqE (sl' := [(20, vi t45.1), (19, vi t37.1), (18, .v (vMember (Member.mk x0.Member.Birth x0.Member.Joined t45.2.1 t45.2.2) ((a0_3, c0_3), (a0_4, c0_4)))), (0, .v (vCase (Case.mk (Book.mk t21.2) (Store.mk t29.2) (Series.mk t37.2) (Member.mk x0.Member.Birth x0.Member.Joined t45.2.1 t45.2.2)) ((a0_0, c0_0), (a0_1, c0_1), (a0_2, c0_2), (a0_3, c0_3), (a0_4, c0_4))))]) (bx' := [(54, (eCase (Case.mk (Book.mk t21.2) (Store.mk t29.2) (Series.mk t37.2) (Member.mk x0.Member.Birth x0.Member.Joined t45.2.1 t45.2.2)) ((a0_0, c0_0), (a0_1, c0_1), (a0_2, c0_2), (a0_3, c0_3), (a0_4, c0_4))))]) (by simp only [eCase, eMember, vCase, vMember, hl52, hl56]) (by simp only [eCase, vCase, hl52, hl56]) ?_
 refine oN 1 [(1, vi t45.1)] [0] ?_
 refine oe (nt (qs (qr (oN 2 [(4, vi t45.1)] [0] ?_))))
 refine oe (nt (qe (rt [.int .i64 t45.1] (fun γ w hs => ?_))))
 rw [← sI h55]
 exact hs.turned (is := [4, 3, 2, 0, 0]) rfl

theorem c_laws_markRule {W : World} {x0 : Rule} {a0_0 : Option Addr} {c0_0 : Nat} {e0_0 : TypeId} {x1 : Int} {r : Int × (List Node)} (h : laws_markRule x0 x1 = some r)  :
    GivesM Tryz.prog 28 #[vRule x0 (a0_0, c0_0), .int .i64 x1] W [SlRes e0_0 x0.Nodes a0_0 c0_0] [SlRes e0_0 r.2 a0_0 c0_0] (.int .i64 r.1) := by
 unfold laws_markRule at h
 refine enM Tryz.func28 Tryz.ntmps28 (fun Fs => ?_)
 refine qs (qr (oB 2 [(2, .p 0 0)] [0, 1] [(69, (eRule x0 (a0_0, c0_0)))] ?_))
 refine oe (nt (qs (qr (oN 3 [(7, vi x1), (6, .v (.slice a0_0 x0.Nodes.length c0_0))] [0] ?_))))
 obtain ⟨t21, h22, h23⟩ := bS h
 obtain ⟨u25, hu26, h27⟩ := bS h23
 have hl28 := (sameLen_some hu26).symm
 refine JO_callM rfl (by kernel_rfl) (f := 88) (args := #[.slice a0_0 x0.Nodes.length c0_0, .int .i64 x1]) (by kernel_rfl) (x := .int .i64 t21.1) (Rin := [SlRes e0_0 x0.Nodes a0_0 c0_0]) (Rout := [SlRes e0_0 t21.2 a0_0 c0_0]) (Rr := []) rfl (fun w => (by have vv := c_laws_markNodeS (e0_0 := e0_0) (a0_0 := a0_0) (c0_0 := c0_0) (W := w) h22; exact vv)) (sl' := [(8, vi t21.1), (7, vi x1), (6, .v (.slice a0_0 x0.Nodes.length c0_0)), (0, .v (vRule x0 (a0_0, c0_0)))]) (by kernel_rfl) ?_
 refine JO_eqE (sl' := [(8, vi t21.1), (7, vi x1), (6, .v (.slice a0_0 t21.2.length c0_0)), (0, .v (vRule (Rule.mk x0.Name x0.From x0.To x0.Joined x0.Rank x0.Mode t21.2) (a0_0, c0_0)))]) (bx' := [(69, (eRule (Rule.mk x0.Name x0.From x0.To x0.Joined x0.Rank x0.Mode t21.2) (a0_0, c0_0)))]) (by simp only [eRule, vRule, hl28]) (by simp only [eRule, vRule, hl28]) ?_
 refine oN 1 [(1, vi t21.1)] [0] ?_
 refine oe (nt (qs (qr (oN 2 [(4, vi t21.1)] [0] ?_))))
 refine oe (nt (qe (rt [.int .i64 t21.1] (fun γ w hs => ?_))))
 rw [← sI h27]
 exact hs.turned (is := [0]) rfl

theorem c_laws_markCorrectionS {W : World} {x0 : List Correction} {a0_0 : Option Addr} {c0_0 : Nat} {e0_0 : TypeId} {x1 : Int} {r : Int × (List Correction)} (h : laws_markCorrectionS x0 x1 = some r)  :
    GivesM Tryz.prog 61 #[.slice a0_0 x0.length c0_0, .int .i64 x1] W [SlRes e0_0 x0 a0_0 c0_0] [SlRes e0_0 r.2 a0_0 c0_0] (.int .i64 r.1) := by
 unfold laws_markCorrectionS at h
 refine enM Tryz.func61 Tryz.ntmps61 (fun Fs => ?_)
 refine qs (qr (oN 1 [] [0, 1] ?_))
 refine oe (nt (qs (qs (qr (oN 1 [(5, vi 0)] [0, 1] ?_)))))
 refine oe (nt ?_)
 obtain ⟨r24, hL25, h26⟩ := bS h
 obtain ⟨k27, hk28, h26⟩ := brkS h26
 refine JC_cutP (τ := ((List Correction) × Int) × (Unit)) (fun y => k27 y.1 = some r) (fun y32 => [(0, .v (.slice a0_0 y32.1.1.length c0_0)), (1, vi y32.1.2)]) (fun y32 => []) (fun y32 => [SlRes e0_0 y32.1.1 a0_0 c0_0]) ?_ (fun y32 h33p => ?_)
 · refine qb (lp Unit hL25 (fun s21 y22 => [(5, vi s21.1), (0, .v (.slice a0_0 s21.2.1.length c0_0)), (1, vi s21.2.2)]) (fun s21 y22 => []) (fun s21 y22 => [SlRes e0_0 s21.2.1 a0_0 c0_0]) () [5, 0, 1] [0] 0 (fun s21 y22 t23 h29 hd30 => ?_))
   refine qs (qs (qr (oN 4 [(9, vb (decide (s21.1 < (s21.2.1.length : Int))))] [5, 0, 1] ?_)))
   refine oe (nt (cC h29 (fun h35 => ?_) (fun h36 => ?_)))
   · refine qk (nt (qs (qb (qs (qr (oN 3 [(14, vi s21.2.2), (13, vi s21.1), (12, .v (.slice a0_0 s21.2.1.length c0_0))] [5, 0, 1] ?_))))))
     obtain ⟨x37, hx38, h39⟩ := bS h35
     refine oi 3 (fun γ w hs => (hs.view 0 rfl)) hx38 ?_
     refine oN 1 [(16, .q a0_0 (Int.toNat s21.1 * 3))] [14, 5, 0, 1] ?_
     obtain ⟨l40, hm41, h42⟩ := bS h39
     replace hm41 := (sI hm41).symm
     refine JO_storeq (α := Correction) (d := a0_0) (vs := [.int .i64 s21.2.2]) (j := s21.1) (x' := (Correction.mk s21.2.2 x37.Old x37.New)) rfl (by kernel_rfl) 0 (by kernel_rfl) hx38 (Rc := []) (Rr := []) rfl (by kernel_rfl) (fun w c F Fs ho _ _ => own_flat_set (by kernel_rfl) ho) hm41 rfl ?_
     have hl43 := len_set hm41
     refine JO_keep [14, 5, 0, 1] (sl' := [(14, vi s21.2.2), (5, vi s21.1), (0, .v (.slice a0_0 s21.2.1.length c0_0)), (1, vi s21.2.2)]) (by kernel_rfl) ?_
     refine JO_eqE (sl' := [(14, vi s21.2.2), (5, vi s21.1), (0, .v (.slice a0_0 l40.length c0_0)), (1, vi s21.2.2)]) (bx' := []) (by simp only [hl43]) rfl ?_
     refine oe (nt (qs (qr (oN 3 [(1, vi (w64 (s21.2.2 + 1)))] [5, 0] ?_))))
     refine oe (nt (qs (qr (oN 3 [(21, vi (w64 (s21.2.2 + 1))), (20, vi s21.1), (19, .v (.slice a0_0 l40.length c0_0))] [1, 5, 0] ?_))))
     obtain ⟨x44, hx45, h46⟩ := bS h42
     refine oi 3 (fun γ w hs => (hs.view 0 rfl)) hx45 ?_
     refine oN 1 [(23, .q a0_0 (Int.toNat s21.1 * 3 + 1))] [21, 1, 5, 0] ?_
     obtain ⟨l47, hm48, h49⟩ := bS h46
     replace hm48 := (sI hm48).symm
     refine JO_storeq (α := Correction) (d := a0_0) (vs := [.int .i64 (w64 (s21.2.2 + 1))]) (j := s21.1) (x' := (Correction.mk x44.Month (w64 (s21.2.2 + 1)) x44.New)) rfl (by kernel_rfl) 1 (by kernel_rfl) hx45 (Rc := []) (Rr := []) rfl (by kernel_rfl) (fun w c F Fs ho _ _ => own_flat_set (by kernel_rfl) ho) hm48 rfl ?_
     have hl50 := len_set hm48
     refine JO_keep [21, 1, 5, 0] (sl' := [(21, vi (w64 (s21.2.2 + 1))), (1, vi (w64 (s21.2.2 + 1))), (5, vi s21.1), (0, .v (.slice a0_0 l40.length c0_0))]) (by kernel_rfl) ?_
     refine JO_eqE (sl' := [(21, vi (w64 (s21.2.2 + 1))), (1, vi (w64 (s21.2.2 + 1))), (5, vi s21.1), (0, .v (.slice a0_0 l47.length c0_0))]) (bx' := []) (by simp only [hl50]) rfl ?_
     refine oe (nt (qs (qr (oN 3 [(1, vi (w64 ((w64 (s21.2.2 + 1)) + 1)))] [5, 0] ?_))))
     refine oe (nt (qs (qr (oN 3 [(28, vi (w64 ((w64 (s21.2.2 + 1)) + 1))), (27, vi s21.1), (26, .v (.slice a0_0 l47.length c0_0))] [1, 5, 0] ?_))))
     obtain ⟨x51, hx52, h53⟩ := bS h49
     refine oi 3 (fun γ w hs => (hs.view 0 rfl)) hx52 ?_
     refine oN 1 [(30, .q a0_0 (Int.toNat s21.1 * 3 + 2))] [28, 1, 5, 0] ?_
     obtain ⟨l54, hm55, h56⟩ := bS h53
     replace hm55 := (sI hm55).symm
     refine JO_storeq (α := Correction) (d := a0_0) (vs := [.int .i64 (w64 ((w64 (s21.2.2 + 1)) + 1))]) (j := s21.1) (x' := (Correction.mk x51.Month x51.Old (w64 ((w64 (s21.2.2 + 1)) + 1)))) rfl (by kernel_rfl) 2 (by kernel_rfl) hx52 (Rc := []) (Rr := []) rfl (by kernel_rfl) (fun w c F Fs ho _ _ => own_flat_set (by kernel_rfl) ho) hm55 rfl ?_
     have hl57 := len_set hm55
     refine JO_keep [28, 1, 5, 0] (sl' := [(28, vi (w64 ((w64 (s21.2.2 + 1)) + 1))), (1, vi (w64 ((w64 (s21.2.2 + 1)) + 1))), (5, vi s21.1), (0, .v (.slice a0_0 l47.length c0_0))]) (by kernel_rfl) ?_
     refine JO_eqE (sl' := [(28, vi (w64 ((w64 (s21.2.2 + 1)) + 1))), (1, vi (w64 ((w64 (s21.2.2 + 1)) + 1))), (5, vi s21.1), (0, .v (.slice a0_0 l54.length c0_0))]) (bx' := []) (by simp only [hl57]) rfl ?_
     refine oe (nt (qr (oN 3 [(1, vi (w64 ((w64 ((w64 (s21.2.2 + 1)) + 1)) + 1)))] [5, 0] ?_)))
     refine oe (bn (nt (qr (oN 3 [(5, vi (w64 (s21.1 + 1)))] [1, 0] ?_))))
     exact oe (ct h56 () [5, 0, 1] [0] 0)
   refine qx (nx (nx (bh ?_)))
   have h58 := leafB hd30 h36 h26
   exact mp ((s21.2.1, s21.2.2), ()) h58 [0, 1] [0] 0
 have h33 := (congrFun hk28 _).symm.trans h33p
 refine nt (qs (qr (oN 2 [(4, vi y32.1.2)] [0] ?_)))
 refine oe (nt (qe (rt [.int .i64 y32.1.2] (fun γ w hs => ?_))))
 rw [← sI h33]
 exact hs.turned (is := [0]) rfl

theorem c_laws_heldCorrectionS {W : World} {x0 : List Correction} {a0_0 : Option Addr} {c0_0 : Nat} {x1 : Int} {r : Int} (h : laws_heldCorrectionS x0 x1 = some r) (hv0_0 : SlView W x0 a0_0 c0_0) :
    Gives0 Tryz.prog 62 #[.slice a0_0 x0.length c0_0, .int .i64 x1] W (.int .i64 r) := by
 unfold laws_heldCorrectionS at h
 refine en Tryz.func62 Tryz.ntmps62 ?_
 refine qs (qr (oN 1 [] [0, 1] ?_))
 refine oe (nt (qs (qs (qr (oN 1 [(5, vi 0)] [0, 1] ?_)))))
 refine oe (nt ?_)
 obtain ⟨r24, hL25, h26⟩ := bS h
 obtain ⟨k27, hk28, h26⟩ := brkS h26
 refine JC_cutP (τ := (Int) × (Unit)) (fun y => k27 y.1 = some r) (fun y32 => [(1, vi y32.1)]) (fun y32 => []) (fun y32 => []) ?_ (fun y32 h33p => ?_)
 · refine qb (lp Unit hL25 (fun s21 y22 => [(5, vi s21.1), (0, .v (.slice a0_0 x0.length c0_0)), (1, vi s21.2)]) (fun s21 y22 => []) (fun s21 y22 => []) () [5, 0, 1] [] 0 (fun s21 y22 t23 h29 hd30 => ?_))
   refine qs (qs (qr (oN 4 [(9, vb (decide (s21.1 < (x0.length : Int))))] [5, 0, 1] ?_)))
   refine oe (nt (cC h29 (fun h35 => ?_) (fun h36 => ?_)))
   · refine qk (nt (qs (qb (qs (qs (qr (oN 2 [(13, vi s21.1), (12, .v (.slice a0_0 x0.length c0_0))] [5, 0, 1] ?_)))))))
     obtain ⟨x37, hx38, h39⟩ := bS h35
     refine oi 3 (fun γ w hs => (hv0_0.kept hs.kept)) hx38 ?_
     refine oN 1 [(15, .q a0_0 (Int.toNat s21.1 * 3))] [5, 0, 1] ?_
     refine ol 3 0 (.int .i64 x37.Month) (fun γ w hs => (hv0_0.kept hs.kept).flatq hx38) ?_
     refine oN 2 [(18, vb (x37.Month != s21.2))] [5, 0, 1] ?_
     refine oe (nt (cC h39 (fun h41 => ?_) (fun h42 => ?_)))
     · refine qs (qr (oN 1 [(4, vi (-1))] [] ?_))
       refine oe (nt (qe (nr (br (nr (nr ?_))))))
       have h43 := leafR hd30 h41 h26
       refine br (nr (nr ?_))
       obtain rfl := sI h43
       exact re [.int .i64 (-1)]
     refine qk (nt (qs (qr (oN 3 [(1, vi (w64 (s21.2 + 1)))] [5, 0] ?_))))
     refine oe (nt (qs (qs (qr (oN 2 [(22, vi s21.1), (21, .v (.slice a0_0 x0.length c0_0))] [1, 5, 0] ?_)))))
     obtain ⟨x44, hx45, h46⟩ := bS h42
     refine oi 3 (fun γ w hs => (hv0_0.kept hs.kept)) hx45 ?_
     refine oN 1 [(24, .q a0_0 (Int.toNat s21.1 * 3 + 1))] [1, 5, 0] ?_
     refine ol 3 1 (.int .i64 x44.Old) (fun γ w hs => (hv0_0.kept hs.kept).flatq hx45) ?_
     refine oN 2 [(27, vb (x44.Old != (w64 (s21.2 + 1))))] [1, 5, 0] ?_
     refine oe (nt (cC h46 (fun h48 => ?_) (fun h49 => ?_)))
     · refine qs (qr (oN 1 [(4, vi (-1))] [] ?_))
       refine oe (nt (qe (nr (br (nr (nr ?_))))))
       have h50 := leafR hd30 h48 h26
       refine br (nr (nr ?_))
       obtain rfl := sI h50
       exact re [.int .i64 (-1)]
     refine qk (nt (qs (qr (oN 3 [(1, vi (w64 ((w64 (s21.2 + 1)) + 1)))] [5, 0] ?_))))
     refine oe (nt (qs (qs (qr (oN 2 [(31, vi s21.1), (30, .v (.slice a0_0 x0.length c0_0))] [1, 5, 0] ?_)))))
     obtain ⟨x51, hx52, h53⟩ := bS h49
     refine oi 3 (fun γ w hs => (hv0_0.kept hs.kept)) hx52 ?_
     refine oN 1 [(33, .q a0_0 (Int.toNat s21.1 * 3 + 2))] [1, 5, 0] ?_
     refine ol 3 2 (.int .i64 x51.New) (fun γ w hs => (hv0_0.kept hs.kept).flatq hx52) ?_
     refine oN 2 [(36, vb (x51.New != (w64 ((w64 (s21.2 + 1)) + 1))))] [1, 5, 0] ?_
     refine oe (nt (cC h53 (fun h55 => ?_) (fun h56 => ?_)))
     · refine qs (qr (oN 1 [(4, vi (-1))] [] ?_))
       refine oe (nt (qe (nr (br (nr (nr ?_))))))
       have h57 := leafR hd30 h55 h26
       refine br (nr (nr ?_))
       obtain rfl := sI h57
       exact re [.int .i64 (-1)]
     refine qk (nt (qr (oN 3 [(1, vi (w64 ((w64 ((w64 (s21.2 + 1)) + 1)) + 1)))] [5, 0] ?_)))
     refine oe (bn (nt (qr (oN 3 [(5, vi (w64 (s21.1 + 1)))] [1, 0] ?_))))
     exact oe (ct h56 () [5, 0, 1] [] 0)
   refine qx (nx (nx (bh ?_)))
   have h58 := leafB hd30 h36 h26
   exact mp (s21.2, ()) h58 [1] [] 0
 have h33 := (congrFun hk28 _).symm.trans h33p
 refine nt (qs (qr (oN 2 [(4, vi y32.1)] [] ?_)))
 refine oe (nt (qe ?_))
 obtain rfl := sI h33
 exact re [.int .i64 y32.1]

theorem c_laws_FnExactImpactOf {W : World} {x0 : Case} {b0 : AC × AC × AC × AC × AC} {x1 : Rule} {a1_0 : Option Addr} {c1_0 : Nat} {x2 : Int} {x3 : Int} {x4 : Int} {r : Bool} (h : laws_FnExactImpactOf x0 x1 x2 x3 x4 = some r) (hv0_0 : SlView W x0.Book.Rules b0.1.1 b0.1.2) (hv0_1 : SlView W x0.Store.Facts b0.2.1.1 b0.2.1.2) (hv0_2 : SlView W x0.Series.Points b0.2.2.1.1 b0.2.2.1.2) (hv0_3 : SlView W x0.Member.Spells b0.2.2.2.1.1 b0.2.2.2.1.2) (hv0_4 : SlView W x0.Member.Events b0.2.2.2.2.1 b0.2.2.2.2.2) (hv1_0 : SlView W x1.Nodes a1_0 c1_0) :
    Gives0 Tryz.prog 13 #[vCase x0 b0, vRule x1 (a1_0, c1_0), .int .i64 x2, .int .i64 x3, .int .i64 x4] W (.bool r) := by
 unfold laws_FnExactImpactOf at h
 refine en Tryz.func13 Tryz.ntmps13 ?_
 refine qs (qr (oB 3 [(6, .p 1 0), (5, .p 0 0)] [2, 3, 4] [(36, (eCase x0 b0)), (63, (eRule x1 (a1_0, c1_0)))] ?_))
 refine oe (nt (qs (qr (oN 1 [(11, vi 1048576)] [6, 5, 2, 3, 4] ?_))))
 refine oe (nt (qs (qr (oN 2 [(21, vi 1048576), (20, .v (vCase x0 b0))] [6, 5, 2, 3, 4] ?_))))
 obtain ⟨t21, h22, h23⟩ := bS h
 refine k0 (fun γ w hs => c_laws_szCase (b0 := b0) h22 (hv0_0.kept hs.kept) (hv0_1.kept hs.kept) (hv0_2.kept hs.kept) (hv0_3.kept hs.kept) (hv0_4.kept hs.kept)) ?_
 refine oN 1 [(11, vi t21)] [6, 5, 2, 3, 4] ?_
 refine oe (nt (qs (qs (qr (oN 2 [(24, vb (decide (t21 < 0)))] [11, 6, 5, 2, 3, 4] ?_)))))
 refine oe (nt (cC h23 (fun h26 => ?_) (fun h27 => ?_)))
 · refine qs (qr (oN 1 [(10, vb true)] [] ?_))
   refine oe (nt (qe (nr ?_)))
   obtain rfl := sI h26
   exact re [.bool true]
 refine qk (nt (qs (qr (oN 2 [(26, vi t21), (25, .v (vRule x1 (a1_0, c1_0)))] [6, 5, 2, 3, 4] ?_))))
 obtain ⟨t28, h29, h30⟩ := bS h27
 refine k0 (fun γ w hs => c_laws_szRule h29 (hv1_0.kept hs.kept)) ?_
 refine oN 1 [(11, vi t28)] [6, 5, 2, 3, 4] ?_
 refine oe (nt (qs (qs (qr (oN 2 [(29, vb (decide (t28 < 0)))] [6, 5, 2, 3, 4] ?_)))))
 refine oe (nt (cC h30 (fun h33 => ?_) (fun h34 => ?_)))
 · refine qs (qr (oN 1 [(10, vb true)] [] ?_))
   refine oe (nt (qe (nr ?_)))
   obtain rfl := sI h33
   exact re [.bool true]
 refine qk (nt (qs ?_))
 obtain ⟨t35, h36, h37⟩ := bS h34
 obtain ⟨t39, h40, h41⟩ := bS h37
 obtain ⟨t43, h44, h45⟩ := bS h41
 refine JC_cut (τ := AC) (fun y47 => [(12, .v (.slice y47.1 t43.length y47.2)), (6, .p 1 0), (5, .p 0 0), (2, vi x2), (3, vi x3), (4, vi x4)]) (fun y47 => [(36, (eCase x0 b0)), (63, (eRule x1 (a1_0, c1_0)))]) (fun y47 => [SlRes 150 t43 y47.1 y47.2]) ?_ (fun y47 => ?_)
 · refine jw [6, 5, 2, 3, 4] [] ?_
   refine JC_heldN (ks := [0, 1]) (Rk := []) 9 (by kernel_rfl) (by kernel_rfl) ?_
   refine htq 0 (.v (vCase x0 b0)) [] ?_
   refine htq 2 (.v (vRule x1 (a1_0, c1_0))) [] ?_
   refine htq 4 (vi x2) [] ?_
   refine htq 5 (vi x3) [] ?_
   refine htq 6 (vi x4) [] ?_
   refine ha1 1 ?_
   refine hi (fun γ0 δ hm => ?_)
   refine g1 (fun w hs => c_laws_toCase (b0 := b0) h36 (hv0_0.kept hs.kept) (hv0_1.kept hs.kept) (hv0_2.kept hs.kept) (hv0_3.kept hs.kept) (hv0_4.kept hs.kept)) (fun y38 => ?_)
   refine gn hm [31, 36, 35, 34, 32, 6, 5, 2, 3, 4] [] ?_
   refine ha1 3 ?_
   refine hi (fun γ0 δ hm => ?_)
   refine g1 (fun w hs => c_laws_toRule h40 (hv1_0.kept hs.kept)) (fun y42 => ?_)
   refine gn hm [33, 31, 36, 35, 34, 6, 5, 2, 3, 4] [] ?_
   refine ha1 7 ?_
   refine hi (fun γ0 δ hm => ?_)
   refine g1 (fun w hs => c_spec_ImpactOf (b0 := y38) h44 (hs.view 1 rfl) (hs.view 2 rfl) (hs.view 3 rfl) (hs.view 4 rfl) (hs.view 5 rfl) (hs.view 0 rfl)) (fun y46 => ?_)
   refine gn hm [37, 6, 5, 2, 3, 4] [] ?_
   refine htq 8 (.v (.slice y46.1 t43.length y46.2)) [] ?_
   refine hk [12, 6, 5, 2, 3, 4] ?_
   exact hd y46 [12, 6, 5, 2, 3, 4] [0] 2
 refine nt (qs (qr (oN 1 [(38, .v (vCase x0 b0))] [12, 6, 5, 2, 3, 4] ?_)))
 obtain ⟨t48, h49, h50⟩ := bS h45
 refine k1 (fun γ w hs => c_laws_toCase (b0 := b0) h49 (hv0_0.kept hs.kept) (hv0_1.kept hs.kept) (hv0_2.kept hs.kept) (hv0_3.kept hs.kept) (hv0_4.kept hs.kept)) (fun y51 => ?_)
 refine oB 2 [(13, .p 2 0)] [12, 6, 5, 2, 3, 4] [(36, (eCase x0 b0)), (63, (eRule x1 (a1_0, c1_0))), (54, (eCase t48 y51))] ?_
 refine oe (nt (qs (qr (oN 1 [(40, .v (vRule x1 (a1_0, c1_0)))] [13, 12, 6, 5, 2, 3, 4] ?_))))
 obtain ⟨t52, h53, h54⟩ := bS h50
 refine k1 (fun γ w hs => c_laws_toRule h53 (hv1_0.kept hs.kept)) (fun y55 => ?_)
 refine oB 2 [(14, .p 3 0)] [13, 12, 6, 5, 2, 3, 4] [(36, (eCase x0 b0)), (63, (eRule x1 (a1_0, c1_0))), (54, (eCase t48 y51)), (69, (eRule t52 y55))] ?_
 refine oe (nt (qs (qr (oN 5 [(46, vi x4), (45, vi x3), (44, vi x2), (43, .v (vRule t52 y55)), (42, .v (vCase t48 y51))] [14, 13, 12, 6, 5, 2, 3, 4] ?_))))
 obtain ⟨t56, h57, h58⟩ := bS h54
 refine k1 (fun γ w hs => c_impl_ImpactOf (b0 := y51) h57 (hs.view 1 rfl) (hs.view 2 rfl) (hs.view 3 rfl) (hs.view 4 rfl) (hs.view 5 rfl) (hs.view 0 rfl)) (fun y59 => ?_)
 refine oN 1 [(15, .v (.slice y59.1 t56.length y59.2))] [14, 13, 12, 6, 5, 2, 3, 4] ?_
 refine oe (nt (qs (qs (qr (oN 2 [(49, .v (.slice y47.1 t43.length y47.2)), (48, .v (.slice y59.1 t56.length y59.2))] [15, 14, 13, 12, 6, 5, 2, 3, 4] ?_)))))
 obtain ⟨t60, h61, h62⟩ := bS h58
 refine k0 (fun γ w hs => c_laws_eqCorrectionS h61 (hs.view 0 rfl) (hs.view 7 rfl)) ?_
 refine oN 1 [(51, vb (!t60))] [15, 14, 13, 12, 6, 5, 2, 3, 4] ?_
 refine oe (nt (cC h62 (fun h65 => ?_) (fun h66 => ?_)))
 · refine qs (qr (oN 1 [(10, vb false)] [] ?_))
   refine oe (nt (qe (nr ?_)))
   obtain rfl := sI h65
   exact re [.bool false]
 refine qk (nt (qs (qs ?_)))
 obtain ⟨t67, h68, h69⟩ := bS h66
 obtain ⟨t71, h72, h73⟩ := bS h69
 refine JC_cut (τ := Unit) (fun _ => [(56, vb (!t71)), (15, .v (.slice y59.1 t56.length y59.2)), (14, .p 3 0), (13, .p 2 0), (12, .v (.slice y47.1 t43.length y47.2)), (6, .p 1 0), (5, .p 0 0), (2, vi x2), (3, vi x3), (4, vi x4)]) (fun _ => [(36, (eCase x0 b0)), (63, (eRule x1 (a1_0, c1_0))), (54, (eCase t48 y51)), (69, (eRule t52 y55))]) (fun _ => [SlRes 150 t56 y59.1 y59.2, SlRes 120 t52.Nodes y55.1 y55.2, SlRes 69 t48.Book.Rules y51.1.1 y51.1.2, SlRes 203 t48.Store.Facts y51.2.1.1 y51.2.1.2, SlRes 207 t48.Series.Points y51.2.2.1.1 y51.2.2.1.2, SlRes 211 t48.Member.Spells y51.2.2.2.1.1 y51.2.2.2.1.2, SlRes 215 t48.Member.Events y51.2.2.2.2.1 y51.2.2.2.2.2, SlRes 150 t43 y47.1 y47.2]) ?_ (fun _ => ?_)
 · refine JC_weak [15, 14, 13, 12, 6, 5, 2, 3, 4] [0, 0, 0, 0, 0, 0, 0, 0] 4 (sl' := [(15, .v (.slice y59.1 t56.length y59.2)), (14, .p 3 0), (13, .p 2 0), (12, .v (.slice y47.1 t43.length y47.2)), (6, .p 1 0), (5, .p 0 0), (2, vi x2), (3, vi x3), (4, vi x4)]) (bx' := [(36, (eCase x0 b0)), (63, (eRule x1 (a1_0, c1_0))), (54, (eCase t48 y51)), (69, (eRule t52 y55))]) (R' := [SlRes 150 t56 y59.1 y59.2, SlRes 120 t52.Nodes y55.1 y55.2, SlRes 69 t48.Book.Rules y51.1.1 y51.1.2, SlRes 203 t48.Store.Facts y51.2.1.1 y51.2.1.2, SlRes 207 t48.Series.Points y51.2.2.1.1 y51.2.2.1.2, SlRes 211 t48.Member.Spells y51.2.2.2.1.1 y51.2.2.2.1.2, SlRes 215 t48.Member.Events y51.2.2.2.2.1 y51.2.2.2.2.2, SlRes 150 t43 y47.1 y47.2]) (by kernel_rfl) (by kernel_rfl) (by kernel_rfl) (by kernel_rfl) ?_
   refine JC_heldN (ks := [0, 1, 2, 3]) (Rk := [SlRes 150 t56 y59.1 y59.2, SlRes 120 t52.Nodes y55.1 y55.2, SlRes 69 t48.Book.Rules y51.1.1 y51.1.2, SlRes 203 t48.Store.Facts y51.2.1.1 y51.2.1.2, SlRes 207 t48.Series.Points y51.2.2.1.1 y51.2.2.1.2, SlRes 211 t48.Member.Spells y51.2.2.2.1.1 y51.2.2.2.1.2, SlRes 215 t48.Member.Events y51.2.2.2.2.1 y51.2.2.2.2.2, SlRes 150 t43 y47.1 y47.2]) 5 (by kernel_rfl) (by kernel_rfl) ?_
   refine htq 0 (.v (vCase t48 y51)) [0, 0, 0, 0, 0, 0, 0, 0] ?_
   refine htq 1 (.v (vCase x0 b0)) [0, 0, 0, 0, 0, 0, 0, 0] ?_
   refine ha1 2 ?_
   refine hi (fun γ0 δ hm => ?_)
   refine g1 (fun w hs => c_laws_toCase (b0 := b0) h68 (hv0_0.kept hs.kept) (hv0_1.kept hs.kept) (hv0_2.kept hs.kept) (hv0_3.kept hs.kept) (hv0_4.kept hs.kept)) (fun y70 => ?_)
   refine gn hm [54, 52, 15, 14, 13, 12, 6, 5, 2, 3, 4] [5, 5, 5, 5, 5, 5, 5, 5] ?_
   refine ha1 3 ?_
   refine hi (fun γ0 δ hm => ?_)
   refine g0 (fun w hs => c_laws_eqCase (b0 := y51) (b1 := y70) h72 (hs.view 7 rfl) (hs.view 8 rfl) (hs.view 9 rfl) (hs.view 10 rfl) (hs.view 11 rfl) (hs.view 0 rfl) (hs.view 1 rfl) (hs.view 2 rfl) (hs.view 3 rfl) (hs.view 4 rfl)) ?_
   refine gn hm [55, 15, 14, 13, 12, 6, 5, 2, 3, 4] [5, 5, 5, 5, 5, 5, 5, 5] ?_
   refine htq 4 (vb (!t71)) [5, 5, 5, 5, 5, 5, 5, 5] ?_
   refine hk [56, 15, 14, 13, 12, 6, 5, 2, 3, 4] ?_
   exact hd () [56, 15, 14, 13, 12, 6, 5, 2, 3, 4] [5, 5, 5, 5, 5, 5, 5, 5] 4
 refine nt (cC h73 (fun h77 => ?_) (fun h78 => ?_))
 · refine qs (qr (oN 1 [(10, vb false)] [] ?_))
   refine oe (nt (qe (nr ?_)))
   obtain rfl := sI h77
   exact re [.bool false]
 refine qk (nt (qs (qs ?_)))
 obtain ⟨t79, h80, h81⟩ := bS h78
 obtain ⟨t83, h84, h85⟩ := bS h81
 refine JC_cut (τ := Unit) (fun _ => [(61, vb (!t83)), (15, .v (.slice y59.1 t56.length y59.2)), (14, .p 3 0), (13, .p 2 0), (12, .v (.slice y47.1 t43.length y47.2)), (6, .p 1 0), (5, .p 0 0), (2, vi x2), (3, vi x3), (4, vi x4)]) (fun _ => [(36, (eCase x0 b0)), (63, (eRule x1 (a1_0, c1_0))), (54, (eCase t48 y51)), (69, (eRule t52 y55))]) (fun _ => [SlRes 150 t56 y59.1 y59.2, SlRes 120 t52.Nodes y55.1 y55.2, SlRes 69 t48.Book.Rules y51.1.1 y51.1.2, SlRes 203 t48.Store.Facts y51.2.1.1 y51.2.1.2, SlRes 207 t48.Series.Points y51.2.2.1.1 y51.2.2.1.2, SlRes 211 t48.Member.Spells y51.2.2.2.1.1 y51.2.2.2.1.2, SlRes 215 t48.Member.Events y51.2.2.2.2.1 y51.2.2.2.2.2, SlRes 150 t43 y47.1 y47.2]) ?_ (fun _ => ?_)
 · refine JC_weak [15, 14, 13, 12, 6, 5, 2, 3, 4] [0, 0, 0, 0, 0, 0, 0, 0] 4 (sl' := [(15, .v (.slice y59.1 t56.length y59.2)), (14, .p 3 0), (13, .p 2 0), (12, .v (.slice y47.1 t43.length y47.2)), (6, .p 1 0), (5, .p 0 0), (2, vi x2), (3, vi x3), (4, vi x4)]) (bx' := [(36, (eCase x0 b0)), (63, (eRule x1 (a1_0, c1_0))), (54, (eCase t48 y51)), (69, (eRule t52 y55))]) (R' := [SlRes 150 t56 y59.1 y59.2, SlRes 120 t52.Nodes y55.1 y55.2, SlRes 69 t48.Book.Rules y51.1.1 y51.1.2, SlRes 203 t48.Store.Facts y51.2.1.1 y51.2.1.2, SlRes 207 t48.Series.Points y51.2.2.1.1 y51.2.2.1.2, SlRes 211 t48.Member.Spells y51.2.2.2.1.1 y51.2.2.2.1.2, SlRes 215 t48.Member.Events y51.2.2.2.2.1 y51.2.2.2.2.2, SlRes 150 t43 y47.1 y47.2]) (by kernel_rfl) (by kernel_rfl) (by kernel_rfl) (by kernel_rfl) ?_
   refine JC_heldN (ks := [0, 1, 2, 3]) (Rk := [SlRes 150 t56 y59.1 y59.2, SlRes 120 t52.Nodes y55.1 y55.2, SlRes 69 t48.Book.Rules y51.1.1 y51.1.2, SlRes 203 t48.Store.Facts y51.2.1.1 y51.2.1.2, SlRes 207 t48.Series.Points y51.2.2.1.1 y51.2.2.1.2, SlRes 211 t48.Member.Spells y51.2.2.2.1.1 y51.2.2.2.1.2, SlRes 215 t48.Member.Events y51.2.2.2.2.1 y51.2.2.2.2.2, SlRes 150 t43 y47.1 y47.2]) 5 (by kernel_rfl) (by kernel_rfl) ?_
   refine htq 0 (.v (vRule t52 y55)) [0, 0, 0, 0, 0, 0, 0, 0] ?_
   refine htq 1 (.v (vRule x1 (a1_0, c1_0))) [0, 0, 0, 0, 0, 0, 0, 0] ?_
   refine ha1 2 ?_
   refine hi (fun γ0 δ hm => ?_)
   refine g1 (fun w hs => c_laws_toRule h80 (hv1_0.kept hs.kept)) (fun y82 => ?_)
   refine gn hm [59, 57, 15, 14, 13, 12, 6, 5, 2, 3, 4] [1, 1, 1, 1, 1, 1, 1, 1] ?_
   refine ha1 3 ?_
   refine hi (fun γ0 δ hm => ?_)
   refine g0 (fun w hs => c_laws_eqRule h84 (hs.view 2 rfl) (hs.view 0 rfl)) ?_
   refine gn hm [60, 15, 14, 13, 12, 6, 5, 2, 3, 4] [1, 1, 1, 1, 1, 1, 1, 1] ?_
   refine htq 4 (vb (!t83)) [1, 1, 1, 1, 1, 1, 1, 1] ?_
   refine hk [61, 15, 14, 13, 12, 6, 5, 2, 3, 4] ?_
   exact hd () [61, 15, 14, 13, 12, 6, 5, 2, 3, 4] [1, 1, 1, 1, 1, 1, 1, 1] 4
 refine nt (cC h85 (fun h89 => ?_) (fun h90 => ?_))
 · refine qs (qr (oN 1 [(10, vb false)] [] ?_))
   refine oe (nt (qe (nr ?_)))
   obtain rfl := sI h89
   exact re [.bool false]
 refine qk (nt (qs (qr (oN 1 [(16, vi 1)] [15, 14, 13, 12, 6, 5, 2, 3, 4] ?_))))
 refine oe (nt (qs (qr (oN 2 [(63, vi 1), (62, .v (vCase t48 y51))] [15, 14, 12, 6, 5, 2, 3, 4] ?_))))
 refine JO_res (R' := [SlRes 69 t48.Book.Rules y51.1.1 y51.1.2, SlRes 203 t48.Store.Facts y51.2.1.1 y51.2.1.2, SlRes 207 t48.Series.Points y51.2.2.1.1 y51.2.2.1.2, SlRes 211 t48.Member.Spells y51.2.2.2.1.1 y51.2.2.2.1.2, SlRes 215 t48.Member.Events y51.2.2.2.2.1 y51.2.2.2.2.2, SlRes 150 t56 y59.1 y59.2, SlRes 120 t52.Nodes y55.1 y55.2, SlRes 150 t43 y47.1 y47.2]) [2, 2, 2, 2, 2, 0, 0, 0] (by kernel_rfl) ?_
 obtain ⟨t91, h92, h93⟩ := bS h90
 obtain ⟨u95, hu96, h97⟩ := bS h93
 have hl98 := (sameLen_some hu96).symm
 obtain ⟨u99, hu100, h101⟩ := bS h97
 have hl102 := (sameLen_some hu100).symm
 obtain ⟨u103, hu104, h105⟩ := bS h101
 have hl106 := (sameLen_some hu104).symm
 obtain ⟨u107, hu108, h109⟩ := bS h105
 have hl110 := (sameLen_some hu108).symm
 obtain ⟨u111, hu112, h113⟩ := bS h109
 have hl114 := (sameLen_some hu112).symm
 refine JO_callM rfl (by kernel_rfl) (f := 20) (args := #[vCase t48 y51, .int .i64 1]) (by kernel_rfl) (x := .int .i64 t91.1) (Rin := [SlRes 69 t48.Book.Rules y51.1.1 y51.1.2, SlRes 203 t48.Store.Facts y51.2.1.1 y51.2.1.2, SlRes 207 t48.Series.Points y51.2.2.1.1 y51.2.2.1.2, SlRes 211 t48.Member.Spells y51.2.2.2.1.1 y51.2.2.2.1.2, SlRes 215 t48.Member.Events y51.2.2.2.2.1 y51.2.2.2.2.2]) (Rout := [SlRes 69 t91.2.1 y51.1.1 y51.1.2, SlRes 203 t91.2.2.1 y51.2.1.1 y51.2.1.2, SlRes 207 t91.2.2.2.1 y51.2.2.1.1 y51.2.2.1.2, SlRes 211 t91.2.2.2.2.1 y51.2.2.2.1.1 y51.2.2.2.1.2, SlRes 215 t91.2.2.2.2.2 y51.2.2.2.2.1 y51.2.2.2.2.2]) (Rr := [SlRes 150 t56 y59.1 y59.2, SlRes 120 t52.Nodes y55.1 y55.2, SlRes 150 t43 y47.1 y47.2]) rfl (fun w => (by have vv := c_laws_markCase (e0_0 := 69) (a0_0 := y51.1.1) (c0_0 := y51.1.2) (e0_1 := 203) (a0_1 := y51.2.1.1) (c0_1 := y51.2.1.2) (e0_2 := 207) (a0_2 := y51.2.2.1.1) (c0_2 := y51.2.2.1.2) (e0_3 := 211) (a0_3 := y51.2.2.2.1.1) (c0_3 := y51.2.2.2.1.2) (e0_4 := 215) (a0_4 := y51.2.2.2.2.1) (c0_4 := y51.2.2.2.2.2) (W := w) h92; exact vv)) (sl' := [(64, vi t91.1), (63, vi 1), (62, .v (vCase t48 y51)), (15, .v (.slice y59.1 t56.length y59.2)), (14, .p 3 0), (12, .v (.slice y47.1 t43.length y47.2)), (6, .p 1 0), (5, .p 0 0), (2, vi x2), (3, vi x3), (4, vi x4)]) (by kernel_rfl) ?_
 refine JO_eqE (sl' := [(64, vi t91.1), (63, vi 1), (62, .v (vCase (Case.mk (Book.mk t91.2.1) (Store.mk t91.2.2.1) (Series.mk t91.2.2.2.1) (Member.mk t48.Member.Birth t48.Member.Joined t91.2.2.2.2.1 t91.2.2.2.2.2)) y51)), (15, .v (.slice y59.1 t56.length y59.2)), (14, .p 3 0), (12, .v (.slice y47.1 t43.length y47.2)), (6, .p 1 0), (5, .p 0 0), (2, vi x2), (3, vi x3), (4, vi x4)]) (bx' := [(36, (eCase x0 b0)), (63, (eRule x1 (a1_0, c1_0))), (54, (eCase (Case.mk (Book.mk t91.2.1) (Store.mk t91.2.2.1) (Series.mk t91.2.2.2.1) (Member.mk t48.Member.Birth t48.Member.Joined t91.2.2.2.2.1 t91.2.2.2.2.2)) y51)), (69, (eRule t52 y55))]) (by simp only [eCase, vCase, hl98, hl102, hl106, hl110, hl114]) (by simp only [eCase, eRule, vCase, vRule, hl98, hl102, hl106, hl110, hl114]) ?_
 refine oN 1 [(16, vi t91.1)] [15, 14, 12, 6, 5, 2, 3, 4] ?_
 refine oe (nt (qs (qr (oN 2 [(66, vi t91.1), (65, .v (vRule t52 y55))] [15, 12, 6, 5, 2, 3, 4] ?_))))
 refine JO_res (R' := [SlRes 120 t52.Nodes y55.1 y55.2, SlRes 69 t91.2.1 y51.1.1 y51.1.2, SlRes 203 t91.2.2.1 y51.2.1.1 y51.2.1.2, SlRes 207 t91.2.2.2.1 y51.2.2.1.1 y51.2.2.1.2, SlRes 211 t91.2.2.2.2.1 y51.2.2.2.1.1 y51.2.2.2.1.2, SlRes 215 t91.2.2.2.2.2 y51.2.2.2.2.1 y51.2.2.2.2.2, SlRes 150 t56 y59.1 y59.2, SlRes 150 t43 y47.1 y47.2]) [6, 0, 0, 0, 0, 0, 0, 0] (by kernel_rfl) ?_
 obtain ⟨t115, h116, h117⟩ := bS h113
 obtain ⟨u119, hu120, h121⟩ := bS h117
 have hl122 := (sameLen_some hu120).symm
 refine JO_callM rfl (by kernel_rfl) (f := 28) (args := #[vRule t52 y55, .int .i64 t91.1]) (by kernel_rfl) (x := .int .i64 t115.1) (Rin := [SlRes 120 t52.Nodes y55.1 y55.2]) (Rout := [SlRes 120 t115.2 y55.1 y55.2]) (Rr := [SlRes 69 t91.2.1 y51.1.1 y51.1.2, SlRes 203 t91.2.2.1 y51.2.1.1 y51.2.1.2, SlRes 207 t91.2.2.2.1 y51.2.2.1.1 y51.2.2.1.2, SlRes 211 t91.2.2.2.2.1 y51.2.2.2.1.1 y51.2.2.2.1.2, SlRes 215 t91.2.2.2.2.2 y51.2.2.2.2.1 y51.2.2.2.2.2, SlRes 150 t56 y59.1 y59.2, SlRes 150 t43 y47.1 y47.2]) rfl (fun w => (by have vv := c_laws_markRule (e0_0 := 120) (a0_0 := y55.1) (c0_0 := y55.2) (W := w) h116; exact vv)) (sl' := [(67, vi t115.1), (66, vi t91.1), (65, .v (vRule t52 y55)), (15, .v (.slice y59.1 t56.length y59.2)), (12, .v (.slice y47.1 t43.length y47.2)), (6, .p 1 0), (5, .p 0 0), (2, vi x2), (3, vi x3), (4, vi x4)]) (by kernel_rfl) ?_
 refine JO_eqE (sl' := [(67, vi t115.1), (66, vi t91.1), (65, .v (vRule (Rule.mk t52.Name t52.From t52.To t52.Joined t52.Rank t52.Mode t115.2) y55)), (15, .v (.slice y59.1 t56.length y59.2)), (12, .v (.slice y47.1 t43.length y47.2)), (6, .p 1 0), (5, .p 0 0), (2, vi x2), (3, vi x3), (4, vi x4)]) (bx' := [(36, (eCase x0 b0)), (63, (eRule x1 (a1_0, c1_0))), (54, (eCase (Case.mk (Book.mk t91.2.1) (Store.mk t91.2.2.1) (Series.mk t91.2.2.2.1) (Member.mk t48.Member.Birth t48.Member.Joined t91.2.2.2.2.1 t91.2.2.2.2.2)) y51)), (69, (eRule (Rule.mk t52.Name t52.From t52.To t52.Joined t52.Rank t52.Mode t115.2) y55))]) (by simp only [eRule, vRule, hl122]) (by simp only [eCase, eRule, vCase, vRule, hl122]) ?_
 refine oN 1 [(16, vi t115.1)] [15, 12, 6, 5, 2, 3, 4] ?_
 refine oe (nt (qs (qs ?_)))
 obtain ⟨p123, hE124, h125⟩ := bS h121
 refine JC_cut (τ := Unit) (fun _ => [(2, vi x2), (3, vi x3), (4, vi x4), (5, .p 0 0), (6, .p 1 0), (12, .v (.slice y47.1 t43.length y47.2)), (15, .v (.slice y59.1 t56.length y59.2)), (75, vb p123)]) (fun _ => [(36, (eCase x0 b0)), (63, (eRule x1 (a1_0, c1_0))), (54, (eCase (Case.mk (Book.mk t91.2.1) (Store.mk t91.2.2.1) (Series.mk t91.2.2.2.1) (Member.mk t48.Member.Birth t48.Member.Joined t91.2.2.2.2.1 t91.2.2.2.2.2)) y51)), (69, (eRule (Rule.mk t52.Name t52.From t52.To t52.Joined t52.Rank t52.Mode t115.2) y55))]) (fun _ => [SlRes 150 t43 y47.1 y47.2, SlRes 150 t56 y59.1 y59.2, SlRes 69 t91.2.1 y51.1.1 y51.1.2, SlRes 203 t91.2.2.1 y51.2.1.1 y51.2.1.2, SlRes 207 t91.2.2.2.1 y51.2.2.1.1 y51.2.2.1.2, SlRes 211 t91.2.2.2.2.1 y51.2.2.2.1.1 y51.2.2.2.1.2, SlRes 215 t91.2.2.2.2.2 y51.2.2.2.2.1 y51.2.2.2.2.2, SlRes 120 t115.2 y55.1 y55.2]) ?_ (fun _ => ?_)
 · refine qr (oN 3 [(70, vb (decide (t115.1 < 0)))] [15, 12, 6, 5, 2, 3, 4] ?_)
   refine oS 70 hE124 (fun h127 => ?_) (fun h128 => ?_)
   · refine oN 5 [(75, vb true)] [15, 12, 6, 5, 2, 3, 4] ?_
     refine oe ?_
     obtain rfl := sI h127
     exact mt () [2, 3, 4, 5, 6, 12, 15, 75] [7, 6, 1, 1, 1, 1, 1, 0] 4
   refine oN 2 [(72, .v (.slice y47.1 t43.length y47.2)), (71, .v (.slice y59.1 t56.length y59.2))] [70, 15, 12, 6, 5, 2, 3, 4] ?_
   obtain ⟨t129, h130, h131⟩ := bS h128
   refine k0 (fun γ w hs => c_laws_eqCorrectionS h130 (hs.view 6 rfl) (hs.view 7 rfl)) ?_
   refine oN 2 [(75, vb (!t129))] [15, 12, 6, 5, 2, 3, 4] ?_
   refine oe ?_
   obtain rfl := sI h131
   exact mt () [2, 3, 4, 5, 6, 12, 15, 75] [7, 6, 1, 1, 1, 1, 1, 0] 4
 refine nt (cC h125 (fun h134 => ?_) (fun h135 => ?_))
 · refine qs (qr (oN 1 [(10, vb false)] [] ?_))
   refine oe (nt (qe (nr ?_)))
   obtain rfl := sI h134
   exact re [.bool false]
 refine qk (nt (qs (qr (oN 1 [(17, vi 1)] [2, 3, 4, 5, 6, 12, 15] ?_))))
 refine oe (nt (qs (qr (oN 2 [(77, vi 1), (76, .v (.slice y59.1 t56.length y59.2))] [2, 3, 4, 5, 6, 12, 15] ?_))))
 refine JO_res (R' := [SlRes 150 t56 y59.1 y59.2, SlRes 150 t43 y47.1 y47.2, SlRes 69 t91.2.1 y51.1.1 y51.1.2, SlRes 203 t91.2.2.1 y51.2.1.1 y51.2.1.2, SlRes 207 t91.2.2.2.1 y51.2.2.1.1 y51.2.2.1.2, SlRes 211 t91.2.2.2.2.1 y51.2.2.2.1.1 y51.2.2.2.1.2, SlRes 215 t91.2.2.2.2.2 y51.2.2.2.2.1 y51.2.2.2.2.2, SlRes 120 t115.2 y55.1 y55.2]) [1, 0, 0, 0, 0, 0, 0, 0] (by kernel_rfl) ?_
 obtain ⟨t136, h137, h138⟩ := bS h135
 obtain ⟨u140, hu141, h142⟩ := bS h138
 have hl143 := (sameLen_some hu141).symm
 refine JO_callM rfl (by kernel_rfl) (f := 61) (args := #[.slice y59.1 t56.length y59.2, .int .i64 1]) (by kernel_rfl) (x := .int .i64 t136.1) (Rin := [SlRes 150 t56 y59.1 y59.2]) (Rout := [SlRes 150 t136.2 y59.1 y59.2]) (Rr := [SlRes 150 t43 y47.1 y47.2, SlRes 69 t91.2.1 y51.1.1 y51.1.2, SlRes 203 t91.2.2.1 y51.2.1.1 y51.2.1.2, SlRes 207 t91.2.2.2.1 y51.2.2.1.1 y51.2.2.1.2, SlRes 211 t91.2.2.2.2.1 y51.2.2.2.1.1 y51.2.2.2.1.2, SlRes 215 t91.2.2.2.2.2 y51.2.2.2.2.1 y51.2.2.2.2.2, SlRes 120 t115.2 y55.1 y55.2]) rfl (fun w => (by have vv := c_laws_markCorrectionS (e0_0 := 150) (a0_0 := y59.1) (c0_0 := y59.2) (W := w) h137; exact vv)) (sl' := [(78, vi t136.1), (77, vi 1), (76, .v (.slice y59.1 t56.length y59.2)), (2, vi x2), (3, vi x3), (4, vi x4), (5, .p 0 0), (6, .p 1 0), (12, .v (.slice y47.1 t43.length y47.2)), (15, .v (.slice y59.1 t56.length y59.2))]) (by kernel_rfl) ?_
 refine JO_eqE (sl' := [(78, vi t136.1), (77, vi 1), (76, .v (.slice y59.1 t136.2.length y59.2)), (2, vi x2), (3, vi x3), (4, vi x4), (5, .p 0 0), (6, .p 1 0), (12, .v (.slice y47.1 t43.length y47.2)), (15, .v (.slice y59.1 t136.2.length y59.2))]) (bx' := [(36, (eCase x0 b0)), (63, (eRule x1 (a1_0, c1_0))), (54, (eCase (Case.mk (Book.mk t91.2.1) (Store.mk t91.2.2.1) (Series.mk t91.2.2.2.1) (Member.mk t48.Member.Birth t48.Member.Joined t91.2.2.2.2.1 t91.2.2.2.2.2)) y51)), (69, (eRule (Rule.mk t52.Name t52.From t52.To t52.Joined t52.Rank t52.Mode t115.2) y55))]) (by simp only [hl143]) rfl ?_
 refine oN 1 [(17, vi t136.1)] [2, 3, 4, 5, 6, 12, 15] ?_
 refine oe (nt (qs (qr (oN 1 [(18, vi 1)] [17, 2, 3, 4, 5, 6, 12, 15] ?_))))
 refine oe (nt (qs (qr (oN 2 [(80, vi 1), (79, .v (.slice y59.1 t136.2.length y59.2))] [17, 2, 3, 4, 5, 6, 12, 15] ?_))))
 obtain ⟨t144, h145, h146⟩ := bS h142
 refine k0 (fun γ w hs => c_laws_heldCorrectionS h145 (hs.view 0 rfl)) ?_
 refine oN 1 [(18, vi t144)] [17, 2, 3, 4, 5, 6, 12, 15] ?_
 refine oe (nt (qs (qs (qr (oN 2 [(83, vb (decide (t144 < 0)))] [18, 17, 2, 3, 4, 5, 6, 12, 15] ?_)))))
 refine oe (nt (cC h146 (fun h149 => ?_) (fun h150 => ?_)))
 · refine qs (qr (oN 1 [(10, vb false)] [] ?_))
   refine oe (nt (qe (nr ?_)))
   obtain rfl := sI h149
   exact re [.bool false]
 refine qk (nt (qs (qs (qr (oN 3 [(86, vb (t144 != t136.1))] [17, 2, 3, 4, 5, 6, 12, 15] ?_)))))
 refine oe (nt (cC h150 (fun h152 => ?_) (fun h153 => ?_)))
 · refine qs (qr (oN 1 [(10, vb false)] [] ?_))
   refine oe (nt (qe (nr ?_)))
   obtain rfl := sI h152
   exact re [.bool false]
 refine qk (nt (qs ?_))
 obtain ⟨t154, h155, h156⟩ := bS h153
 obtain ⟨t158, h159, h160⟩ := bS h156
 obtain ⟨t162, h163, h164⟩ := bS h160
 refine JC_cut (τ := AC) (fun y166 => [(19, .v (.slice y166.1 t162.length y166.2)), (17, vi t136.1), (12, .v (.slice y47.1 t43.length y47.2)), (15, .v (.slice y59.1 t136.2.length y59.2))]) (fun y166 => [(36, (eCase x0 b0)), (63, (eRule x1 (a1_0, c1_0))), (54, (eCase (Case.mk (Book.mk t91.2.1) (Store.mk t91.2.2.1) (Series.mk t91.2.2.2.1) (Member.mk t48.Member.Birth t48.Member.Joined t91.2.2.2.2.1 t91.2.2.2.2.2)) y51)), (69, (eRule (Rule.mk t52.Name t52.From t52.To t52.Joined t52.Rank t52.Mode t115.2) y55))]) (fun y166 => [SlRes 150 t162 y166.1 y166.2, SlRes 150 t136.2 y59.1 y59.2, SlRes 150 t43 y47.1 y47.2, SlRes 69 t91.2.1 y51.1.1 y51.1.2, SlRes 203 t91.2.2.1 y51.2.1.1 y51.2.1.2, SlRes 207 t91.2.2.2.1 y51.2.2.1.1 y51.2.2.1.2, SlRes 211 t91.2.2.2.2.1 y51.2.2.2.1.1 y51.2.2.2.1.2, SlRes 215 t91.2.2.2.2.2 y51.2.2.2.2.1 y51.2.2.2.2.2, SlRes 120 t115.2 y55.1 y55.2]) ?_ (fun y166 => ?_)
 · refine JC_weak [17, 2, 3, 4, 5, 6, 12, 15] [0, 0, 0, 0, 0, 0, 0, 0] 4 (sl' := [(17, vi t136.1), (2, vi x2), (3, vi x3), (4, vi x4), (5, .p 0 0), (6, .p 1 0), (12, .v (.slice y47.1 t43.length y47.2)), (15, .v (.slice y59.1 t136.2.length y59.2))]) (bx' := [(36, (eCase x0 b0)), (63, (eRule x1 (a1_0, c1_0))), (54, (eCase (Case.mk (Book.mk t91.2.1) (Store.mk t91.2.2.1) (Series.mk t91.2.2.2.1) (Member.mk t48.Member.Birth t48.Member.Joined t91.2.2.2.2.1 t91.2.2.2.2.2)) y51)), (69, (eRule (Rule.mk t52.Name t52.From t52.To t52.Joined t52.Rank t52.Mode t115.2) y55))]) (R' := [SlRes 150 t136.2 y59.1 y59.2, SlRes 150 t43 y47.1 y47.2, SlRes 69 t91.2.1 y51.1.1 y51.1.2, SlRes 203 t91.2.2.1 y51.2.1.1 y51.2.1.2, SlRes 207 t91.2.2.2.1 y51.2.2.1.1 y51.2.2.1.2, SlRes 211 t91.2.2.2.2.1 y51.2.2.2.1.1 y51.2.2.2.1.2, SlRes 215 t91.2.2.2.2.2 y51.2.2.2.2.1 y51.2.2.2.2.2, SlRes 120 t115.2 y55.1 y55.2]) (by kernel_rfl) (by kernel_rfl) (by kernel_rfl) (by kernel_rfl) ?_
   refine JC_heldN (ks := [0, 1, 2, 3]) (Rk := [SlRes 150 t136.2 y59.1 y59.2, SlRes 150 t43 y47.1 y47.2, SlRes 69 t91.2.1 y51.1.1 y51.1.2, SlRes 203 t91.2.2.1 y51.2.1.1 y51.2.1.2, SlRes 207 t91.2.2.2.1 y51.2.2.1.1 y51.2.2.1.2, SlRes 211 t91.2.2.2.2.1 y51.2.2.2.1.1 y51.2.2.2.1.2, SlRes 215 t91.2.2.2.2.2 y51.2.2.2.2.1 y51.2.2.2.2.2, SlRes 120 t115.2 y55.1 y55.2]) 9 (by kernel_rfl) (by kernel_rfl) ?_
   refine htq 0 (.v (vCase x0 b0)) [0, 0, 0, 0, 0, 0, 0, 0] ?_
   refine hk [87, 17, 2, 3, 4, 6, 12, 15] ?_
   refine htq 2 (.v (vRule x1 (a1_0, c1_0))) [0, 0, 0, 0, 0, 0, 0, 0] ?_
   refine hk [89, 87, 17, 2, 3, 4, 12, 15] ?_
   refine htq 4 (vi x2) [0, 0, 0, 0, 0, 0, 0, 0] ?_
   refine hk [91, 89, 87, 17, 3, 4, 12, 15] ?_
   refine htq 5 (vi x3) [0, 0, 0, 0, 0, 0, 0, 0] ?_
   refine hk [92, 91, 89, 87, 17, 4, 12, 15] ?_
   refine htq 6 (vi x4) [0, 0, 0, 0, 0, 0, 0, 0] ?_
   refine hk [93, 92, 91, 89, 87, 17, 12, 15] ?_
   refine ha1 1 ?_
   refine hi (fun γ0 δ hm => ?_)
   refine g1 (fun w hs => c_laws_toCase (b0 := b0) h155 (hv0_0.kept hs.kept) (hv0_1.kept hs.kept) (hv0_2.kept hs.kept) (hv0_3.kept hs.kept) (hv0_4.kept hs.kept)) (fun y157 => ?_)
   refine gn hm [88, 93, 92, 91, 89, 17, 12, 15] [5, 5, 5, 5, 5, 5, 5, 5] ?_
   refine ha1 3 ?_
   refine hi (fun γ0 δ hm => ?_)
   refine g1 (fun w hs => c_laws_toRule h159 (hv1_0.kept hs.kept)) (fun y161 => ?_)
   refine gn hm [90, 88, 93, 92, 91, 17, 12, 15] [6, 6, 6, 6, 6, 6, 6, 6] ?_
   refine ha1 7 ?_
   refine hi (fun γ0 δ hm => ?_)
   refine g1 (fun w hs => c_impl_ImpactOf (b0 := y157) h163 (hs.view 1 rfl) (hs.view 2 rfl) (hs.view 3 rfl) (hs.view 4 rfl) (hs.view 5 rfl) (hs.view 0 rfl)) (fun y165 => ?_)
   refine gn hm [94, 17, 12, 15] [7, 7, 7, 7, 7, 7, 7, 7] ?_
   refine htq 8 (.v (.slice y165.1 t162.length y165.2)) [7, 7, 7, 7, 7, 7, 7, 7] ?_
   refine hk [19, 17, 12, 15] ?_
   exact hd y165 [19, 17, 12, 15] [0, 6, 6, 6, 6, 6, 6, 6, 6] 4
 refine nt (qs (qs (qr (oN 2 [(96, .v (.slice y47.1 t43.length y47.2)), (95, .v (.slice y166.1 t162.length y166.2))] [17, 15] ?_))))
 obtain ⟨t167, h168, h169⟩ := bS h164
 refine k0 (fun γ w hs => c_laws_eqCorrectionS h168 (hs.view 0 rfl) (hs.view 2 rfl)) ?_
 refine oN 1 [(98, vb (!t167))] [17, 15] ?_
 refine oe (nt (cC h169 (fun h172 => ?_) (fun h173 => ?_)))
 · refine qs (qr (oN 1 [(10, vb false)] [] ?_))
   refine oe (nt (qe (nr ?_)))
   obtain rfl := sI h172
   exact re [.bool false]
 refine qk (nt (qs (qr (oN 1 [(18, vi 1)] [17, 15] ?_))))
 refine oe (nt (qs (qr (oN 2 [(100, vi 1), (99, .v (.slice y59.1 t136.2.length y59.2))] [17] ?_))))
 obtain ⟨t174, h175, h176⟩ := bS h173
 refine k0 (fun γ w hs => c_laws_heldCorrectionS h175 (hs.view 1 rfl)) ?_
 refine oN 1 [(18, vi t174)] [17] ?_
 refine oe (nt (qs (qs (qr (oN 2 [(103, vb (decide (t174 < 0)))] [18, 17] ?_)))))
 refine oe (nt (cC h176 (fun h179 => ?_) (fun h180 => ?_)))
 · refine qs (qr (oN 1 [(10, vb false)] [] ?_))
   refine oe (nt (qe (nr ?_)))
   obtain rfl := sI h179
   exact re [.bool false]
 refine qk (nt (qs (qs (qr (oN 3 [(106, vb (t174 != t136.1))] [] ?_)))))
 refine oe (nt (cC h180 (fun h182 => ?_) (fun h183 => ?_)))
 · refine qs (qr (oN 1 [(10, vb false)] [] ?_))
   refine oe (nt (qe (nr ?_)))
   obtain rfl := sI h182
   exact re [.bool false]
 refine qk (nt (qs (qr (oN 1 [(10, vb true)] [] ?_))))
 refine oe (nt (qe ?_))
 obtain rfl := sI h183
 exact re [.bool true]
end Go.Pen
