/-
  Each Go function does what its plain function says: written by a program of ours.
-/
import Derived.Test.YthjaemfkjlnfaaaGreatW3
import Derived.Test.YthjaemfkjlnfaaaGreatProg
import Derived.Test.YthjaemfkjlnfaaaGreatPenK
import Derived.Test.YthjaemfkjlnfaaaGreatPenQ
import Derived.Test.YthjaemfkjlnfaaaGreatPenU
namespace Go.Pen
open Go.Proofs Go.RowKit
set_option linter.unusedVariables false
set_option linter.unusedSimpArgs false
set_option maxRecDepth 100000
set_option maxHeartbeats 4000000

theorem c_laws_markSpellS {W : World} {x0 : List Spell} {a0_0 : Option Addr} {c0_0 : Nat} {e0_0 : TypeId} {x1 : Int} {r : Int × (List Spell)} (h : laws_markSpellS x0 x1 = some r)  :
    GivesM Tryz.prog 117 #[.slice a0_0 x0.length c0_0, .int .i64 x1] W [SlRes e0_0 x0 a0_0 c0_0] [SlRes e0_0 r.2 a0_0 c0_0] (.int .i64 r.1) := by
 unfold laws_markSpellS at h
 refine enM Tryz.func117 Tryz.ntmps117 (fun Fs => ?_)
 refine qs (qr (oN 1 [] [0, 1] ?_))
 refine oe (nt (qs (qs (qr (oN 1 [(5, vi 0)] [0, 1] ?_)))))
 refine oe (nt ?_)
 obtain ⟨r24, hL25, h26⟩ := bS h
 obtain ⟨k27, hk28, h26⟩ := brkS h26
 refine JC_cutP (τ := ((List Spell) × Int) × (Unit)) (fun y => k27 y.1 = some r) (fun y32 => [(0, .v (.slice a0_0 y32.1.1.length c0_0)), (1, vi y32.1.2)]) (fun y32 => []) (fun y32 => [SlRes e0_0 y32.1.1 a0_0 c0_0]) ?_ (fun y32 h33p => ?_)
 · refine qb (lp Unit hL25 (fun s21 y22 => [(5, vi s21.1), (0, .v (.slice a0_0 s21.2.1.length c0_0)), (1, vi s21.2.2)]) (fun s21 y22 => []) (fun s21 y22 => [SlRes e0_0 s21.2.1 a0_0 c0_0]) () [5, 0, 1] [0] 0 (fun s21 y22 t23 h29 hd30 => ?_))
   refine qs (qs (qr (oN 4 [(9, vb (decide (s21.1 < (s21.2.1.length : Int))))] [5, 0, 1] ?_)))
   refine oe (nt (cC h29 (fun h35 => ?_) (fun h36 => ?_)))
   · refine qk (nt (qs (qb (qs (qr (oN 3 [(14, vi s21.2.2), (13, vi s21.1), (12, .v (.slice a0_0 s21.2.1.length c0_0))] [5, 0, 1] ?_))))))
     obtain ⟨x37, hx38, h39⟩ := bS h35
     refine oi 4 (fun γ w hs => (hs.view 0 rfl)) hx38 ?_
     refine oN 1 [(16, .q a0_0 (Int.toNat s21.1 * 4))] [14, 5, 0, 1] ?_
     obtain ⟨l40, hm41, h42⟩ := bS h39
     replace hm41 := (sI hm41).symm
     refine JO_storeq (α := Spell) (d := a0_0) (vs := [.int .i64 s21.2.2]) (j := s21.1) (x' := (Spell.mk s21.2.2 x37.To x37.Percent x37.Leave)) rfl (by kernel_rfl) 0 (by kernel_rfl) hx38 (Rc := []) (Rr := []) rfl (by kernel_rfl) (fun w c F Fs ho _ _ => own_flat_set (by kernel_rfl) ho) hm41 rfl ?_
     have hl43 := len_set hm41
     refine JO_keep [14, 5, 0, 1] (sl' := [(14, vi s21.2.2), (5, vi s21.1), (0, .v (.slice a0_0 s21.2.1.length c0_0)), (1, vi s21.2.2)]) (by kernel_rfl) ?_
     refine JO_eqE (sl' := [(14, vi s21.2.2), (5, vi s21.1), (0, .v (.slice a0_0 l40.length c0_0)), (1, vi s21.2.2)]) (bx' := []) (by simp only [hl43]) rfl ?_
     refine oe (nt (qs (qr (oN 3 [(1, vi (w64 (s21.2.2 + 1)))] [5, 0] ?_))))
     refine oe (nt (qs (qr (oN 3 [(21, vi (w64 (s21.2.2 + 1))), (20, vi s21.1), (19, .v (.slice a0_0 l40.length c0_0))] [1, 5, 0] ?_))))
     obtain ⟨x44, hx45, h46⟩ := bS h42
     refine oi 4 (fun γ w hs => (hs.view 0 rfl)) hx45 ?_
     refine oN 1 [(23, .q a0_0 (Int.toNat s21.1 * 4 + 1))] [21, 1, 5, 0] ?_
     obtain ⟨l47, hm48, h49⟩ := bS h46
     replace hm48 := (sI hm48).symm
     refine JO_storeq (α := Spell) (d := a0_0) (vs := [.int .i64 (w64 (s21.2.2 + 1))]) (j := s21.1) (x' := (Spell.mk x44.From (w64 (s21.2.2 + 1)) x44.Percent x44.Leave)) rfl (by kernel_rfl) 1 (by kernel_rfl) hx45 (Rc := []) (Rr := []) rfl (by kernel_rfl) (fun w c F Fs ho _ _ => own_flat_set (by kernel_rfl) ho) hm48 rfl ?_
     have hl50 := len_set hm48
     refine JO_keep [21, 1, 5, 0] (sl' := [(21, vi (w64 (s21.2.2 + 1))), (1, vi (w64 (s21.2.2 + 1))), (5, vi s21.1), (0, .v (.slice a0_0 l40.length c0_0))]) (by kernel_rfl) ?_
     refine JO_eqE (sl' := [(21, vi (w64 (s21.2.2 + 1))), (1, vi (w64 (s21.2.2 + 1))), (5, vi s21.1), (0, .v (.slice a0_0 l47.length c0_0))]) (bx' := []) (by simp only [hl50]) rfl ?_
     refine oe (nt (qs (qr (oN 3 [(1, vi (w64 ((w64 (s21.2.2 + 1)) + 1)))] [5, 0] ?_))))
     refine oe (nt (qs (qr (oN 3 [(28, vi (w64 ((w64 (s21.2.2 + 1)) + 1))), (27, vi s21.1), (26, .v (.slice a0_0 l47.length c0_0))] [1, 5, 0] ?_))))
     obtain ⟨x51, hx52, h53⟩ := bS h49
     refine oi 4 (fun γ w hs => (hs.view 0 rfl)) hx52 ?_
     refine oN 1 [(30, .q a0_0 (Int.toNat s21.1 * 4 + 2))] [28, 1, 5, 0] ?_
     obtain ⟨l54, hm55, h56⟩ := bS h53
     replace hm55 := (sI hm55).symm
     refine JO_storeq (α := Spell) (d := a0_0) (vs := [.int .i64 (w64 ((w64 (s21.2.2 + 1)) + 1))]) (j := s21.1) (x' := (Spell.mk x51.From x51.To (w64 ((w64 (s21.2.2 + 1)) + 1)) x51.Leave)) rfl (by kernel_rfl) 2 (by kernel_rfl) hx52 (Rc := []) (Rr := []) rfl (by kernel_rfl) (fun w c F Fs ho _ _ => own_flat_set (by kernel_rfl) ho) hm55 rfl ?_
     have hl57 := len_set hm55
     refine JO_keep [28, 1, 5, 0] (sl' := [(28, vi (w64 ((w64 (s21.2.2 + 1)) + 1))), (1, vi (w64 ((w64 (s21.2.2 + 1)) + 1))), (5, vi s21.1), (0, .v (.slice a0_0 l47.length c0_0))]) (by kernel_rfl) ?_
     refine JO_eqE (sl' := [(28, vi (w64 ((w64 (s21.2.2 + 1)) + 1))), (1, vi (w64 ((w64 (s21.2.2 + 1)) + 1))), (5, vi s21.1), (0, .v (.slice a0_0 l54.length c0_0))]) (bx' := []) (by simp only [hl57]) rfl ?_
     refine oe (nt (qs (qr (oN 3 [(1, vi (w64 ((w64 ((w64 (s21.2.2 + 1)) + 1)) + 1)))] [5, 0] ?_))))
     refine oe (nt (qs (qr (oN 5 [(37, vb ((Int.tmod (w64 ((w64 ((w64 (s21.2.2 + 1)) + 1)) + 1)) 3) == 0)), (34, vi s21.1), (33, .v (.slice a0_0 l54.length c0_0))] [1, 5, 0] ?_))))
     obtain ⟨x58, hx59, h60⟩ := bS h56
     refine oi 4 (fun γ w hs => (hs.view 0 rfl)) hx59 ?_
     refine oN 1 [(39, .q a0_0 (Int.toNat s21.1 * 4 + 3))] [37, 1, 5, 0] ?_
     obtain ⟨l61, hm62, h63⟩ := bS h60
     replace hm62 := (sI hm62).symm
     refine JO_storeq (α := Spell) (d := a0_0) (vs := [.bool ((Int.tmod (w64 ((w64 ((w64 (s21.2.2 + 1)) + 1)) + 1)) 3) == 0)]) (j := s21.1) (x' := (Spell.mk x58.From x58.To x58.Percent ((Int.tmod (w64 ((w64 ((w64 (s21.2.2 + 1)) + 1)) + 1)) 3) == 0))) rfl (by kernel_rfl) 3 (by kernel_rfl) hx59 (Rc := []) (Rr := []) rfl (by kernel_rfl) (fun w c F Fs ho _ _ => own_flat_set (by kernel_rfl) ho) hm62 rfl ?_
     have hl64 := len_set hm62
     refine JO_keep [37, 1, 5, 0] (sl' := [(37, vb ((Int.tmod (w64 ((w64 ((w64 (s21.2.2 + 1)) + 1)) + 1)) 3) == 0)), (1, vi (w64 ((w64 ((w64 (s21.2.2 + 1)) + 1)) + 1))), (5, vi s21.1), (0, .v (.slice a0_0 l54.length c0_0))]) (by kernel_rfl) ?_
     refine JO_eqE (sl' := [(37, vb ((Int.tmod (w64 ((w64 ((w64 (s21.2.2 + 1)) + 1)) + 1)) 3) == 0)), (1, vi (w64 ((w64 ((w64 (s21.2.2 + 1)) + 1)) + 1))), (5, vi s21.1), (0, .v (.slice a0_0 l61.length c0_0))]) (bx' := []) (by simp only [hl64]) rfl ?_
     refine oe (nt (qr (oN 3 [(1, vi (w64 ((w64 ((w64 ((w64 (s21.2.2 + 1)) + 1)) + 1)) + 1)))] [5, 0] ?_)))
     refine oe (bn (nt (qr (oN 3 [(5, vi (w64 (s21.1 + 1)))] [1, 0] ?_))))
     exact oe (ct h63 () [5, 0, 1] [0] 0)
   refine qx (nx (nx (bh ?_)))
   have h65 := leafB hd30 h36 h26
   exact mp ((s21.2.1, s21.2.2), ()) h65 [0, 1] [0] 0
 have h33 := (congrFun hk28 _).symm.trans h33p
 refine nt (qs (qr (oN 2 [(4, vi y32.1.2)] [0] ?_)))
 refine oe (nt (qe (rt [.int .i64 y32.1.2] (fun γ w hs => ?_))))
 rw [← sI h33]
 exact hs.turned (is := [0]) rfl

theorem c_laws_markEventS {W : World} {x0 : List Event} {a0_0 : Option Addr} {c0_0 : Nat} {e0_0 : TypeId} {x1 : Int} {r : Int × (List Event)} (h : laws_markEventS x0 x1 = some r)  :
    GivesM Tryz.prog 118 #[.slice a0_0 x0.length c0_0, .int .i64 x1] W [SlRes e0_0 x0 a0_0 c0_0] [SlRes e0_0 r.2 a0_0 c0_0] (.int .i64 r.1) := by
 unfold laws_markEventS at h
 refine enM Tryz.func118 Tryz.ntmps118 (fun Fs => ?_)
 refine qs (qr (oN 1 [] [0, 1] ?_))
 refine oe (nt (qs (qs (qr (oN 1 [(5, vi 0)] [0, 1] ?_)))))
 refine oe (nt ?_)
 obtain ⟨r24, hL25, h26⟩ := bS h
 obtain ⟨k27, hk28, h26⟩ := brkS h26
 refine JC_cutP (τ := ((List Event) × Int) × (Unit)) (fun y => k27 y.1 = some r) (fun y32 => [(0, .v (.slice a0_0 y32.1.1.length c0_0)), (1, vi y32.1.2)]) (fun y32 => []) (fun y32 => [SlRes e0_0 y32.1.1 a0_0 c0_0]) ?_ (fun y32 h33p => ?_)
 · refine qb (lp Unit hL25 (fun s21 y22 => [(5, vi s21.1), (0, .v (.slice a0_0 s21.2.1.length c0_0)), (1, vi s21.2.2)]) (fun s21 y22 => []) (fun s21 y22 => [SlRes e0_0 s21.2.1 a0_0 c0_0]) () [5, 0, 1] [0] 0 (fun s21 y22 t23 h29 hd30 => ?_))
   refine qs (qs (qr (oN 4 [(9, vb (decide (s21.1 < (s21.2.1.length : Int))))] [5, 0, 1] ?_)))
   refine oe (nt (cC h29 (fun h35 => ?_) (fun h36 => ?_)))
   · refine qk (nt (qs (qb (qs (qr (oN 3 [(14, vi s21.2.2), (13, vi s21.1), (12, .v (.slice a0_0 s21.2.1.length c0_0))] [5, 0, 1] ?_))))))
     obtain ⟨x37, hx38, h39⟩ := bS h35
     refine oi 2 (fun γ w hs => (hs.view 0 rfl)) hx38 ?_
     refine oN 1 [(16, .q a0_0 (Int.toNat s21.1 * 2))] [14, 5, 0, 1] ?_
     obtain ⟨l40, hm41, h42⟩ := bS h39
     replace hm41 := (sI hm41).symm
     refine JO_storeq (α := Event) (d := a0_0) (vs := [.int .i64 s21.2.2]) (j := s21.1) (x' := (Event.mk s21.2.2 x37.Month)) rfl (by kernel_rfl) 0 (by kernel_rfl) hx38 (Rc := []) (Rr := []) rfl (by kernel_rfl) (fun w c F Fs ho _ _ => own_flat_set (by kernel_rfl) ho) hm41 rfl ?_
     have hl43 := len_set hm41
     refine JO_keep [14, 5, 0, 1] (sl' := [(14, vi s21.2.2), (5, vi s21.1), (0, .v (.slice a0_0 s21.2.1.length c0_0)), (1, vi s21.2.2)]) (by kernel_rfl) ?_
     refine JO_eqE (sl' := [(14, vi s21.2.2), (5, vi s21.1), (0, .v (.slice a0_0 l40.length c0_0)), (1, vi s21.2.2)]) (bx' := []) (by simp only [hl43]) rfl ?_
     refine oe (nt (qs (qr (oN 3 [(1, vi (w64 (s21.2.2 + 1)))] [5, 0] ?_))))
     refine oe (nt (qs (qr (oN 3 [(21, vi (w64 (s21.2.2 + 1))), (20, vi s21.1), (19, .v (.slice a0_0 l40.length c0_0))] [1, 5, 0] ?_))))
     obtain ⟨x44, hx45, h46⟩ := bS h42
     refine oi 2 (fun γ w hs => (hs.view 0 rfl)) hx45 ?_
     refine oN 1 [(23, .q a0_0 (Int.toNat s21.1 * 2 + 1))] [21, 1, 5, 0] ?_
     obtain ⟨l47, hm48, h49⟩ := bS h46
     replace hm48 := (sI hm48).symm
     refine JO_storeq (α := Event) (d := a0_0) (vs := [.int .i64 (w64 (s21.2.2 + 1))]) (j := s21.1) (x' := (Event.mk x44.Kind (w64 (s21.2.2 + 1)))) rfl (by kernel_rfl) 1 (by kernel_rfl) hx45 (Rc := []) (Rr := []) rfl (by kernel_rfl) (fun w c F Fs ho _ _ => own_flat_set (by kernel_rfl) ho) hm48 rfl ?_
     have hl50 := len_set hm48
     refine JO_keep [21, 1, 5, 0] (sl' := [(21, vi (w64 (s21.2.2 + 1))), (1, vi (w64 (s21.2.2 + 1))), (5, vi s21.1), (0, .v (.slice a0_0 l40.length c0_0))]) (by kernel_rfl) ?_
     refine JO_eqE (sl' := [(21, vi (w64 (s21.2.2 + 1))), (1, vi (w64 (s21.2.2 + 1))), (5, vi s21.1), (0, .v (.slice a0_0 l47.length c0_0))]) (bx' := []) (by simp only [hl50]) rfl ?_
     refine oe (nt (qr (oN 3 [(1, vi (w64 ((w64 (s21.2.2 + 1)) + 1)))] [5, 0] ?_)))
     refine oe (bn (nt (qr (oN 3 [(5, vi (w64 (s21.1 + 1)))] [1, 0] ?_))))
     exact oe (ct h49 () [5, 0, 1] [0] 0)
   refine qx (nx (nx (bh ?_)))
   have h51 := leafB hd30 h36 h26
   exact mp ((s21.2.1, s21.2.2), ()) h51 [0, 1] [0] 0
 have h33 := (congrFun hk28 _).symm.trans h33p
 refine nt (qs (qr (oN 2 [(4, vi y32.1.2)] [0] ?_)))
 refine oe (nt (qe (rt [.int .i64 y32.1.2] (fun γ w hs => ?_))))
 rw [← sI h33]
 exact hs.turned (is := [0]) rfl

theorem c_laws_markMember {W : World} {x0 : Member} {a0_0 : Option Addr} {c0_0 : Nat} {e0_0 : TypeId} {a0_1 : Option Addr} {c0_1 : Nat} {e0_1 : TypeId} {x1 : Int} {r : Int × (List Spell) × (List Event)} (h : laws_markMember x0 x1 = some r)  :
    GivesM Tryz.prog 71 #[vMember x0 ((a0_0, c0_0), (a0_1, c0_1)), .int .i64 x1] W [SlRes e0_0 x0.Spells a0_0 c0_0, SlRes e0_1 x0.Events a0_1 c0_1] [SlRes e0_0 r.2.1 a0_0 c0_0, SlRes e0_1 r.2.2 a0_1 c0_1] (.int .i64 r.1) := by
 unfold laws_markMember at h
 refine enM Tryz.func71 Tryz.ntmps71 (fun Fs => ?_)
 refine qs (qr (oB 2 [(2, .p 0 0)] [0, 1] [(52, (eMember x0 ((a0_0, c0_0), (a0_1, c0_1))))] ?_))
 refine oe (nt (qs (qr (oN 3 [(7, vi x1), (6, .v (.slice a0_0 x0.Spells.length c0_0))] [2, 0] ?_))))
 obtain ⟨t21, h22, h23⟩ := bS h
 obtain ⟨u25, hu26, h27⟩ := bS h23
 have hl28 := (sameLen_some hu26).symm
 refine JO_callM rfl (by kernel_rfl) (f := 117) (args := #[.slice a0_0 x0.Spells.length c0_0, .int .i64 x1]) (by kernel_rfl) (x := .int .i64 t21.1) (Rin := [SlRes e0_0 x0.Spells a0_0 c0_0]) (Rout := [SlRes e0_0 t21.2 a0_0 c0_0]) (Rr := [SlRes e0_1 x0.Events a0_1 c0_1]) rfl (fun w => (by have vv := c_laws_markSpellS (e0_0 := e0_0) (a0_0 := a0_0) (c0_0 := c0_0) (W := w) h22; exact vv)) (sl' := [(8, vi t21.1), (7, vi x1), (6, .v (.slice a0_0 x0.Spells.length c0_0)), (2, .p 0 0), (0, .v (vMember x0 ((a0_0, c0_0), (a0_1, c0_1))))]) (by kernel_rfl) ?_
 refine JO_eqE (sl' := [(8, vi t21.1), (7, vi x1), (6, .v (.slice a0_0 t21.2.length c0_0)), (2, .p 0 0), (0, .v (vMember (Member.mk x0.Birth x0.Joined t21.2 x0.Events) ((a0_0, c0_0), (a0_1, c0_1))))]) (bx' := [(52, (eMember (Member.mk x0.Birth x0.Joined t21.2 x0.Events) ((a0_0, c0_0), (a0_1, c0_1))))]) (by simp only [eMember, vMember, hl28]) (by simp only [eMember, vMember, hl28]) ?_
 refine oN 1 [(1, vi t21.1)] [2, 0] ?_
 refine oe (nt (qs (qr (oN 3 [(11, vi t21.1), (10, .v (.slice a0_1 x0.Events.length c0_1))] [0] ?_))))
 refine or_ [1, 0] ?_
 obtain ⟨t29, h30, h31⟩ := bS h27
 obtain ⟨u33, hu34, h35⟩ := bS h31
 have hl36 := (sameLen_some hu34).symm
 refine JO_callM rfl (by kernel_rfl) (f := 118) (args := #[.slice a0_1 x0.Events.length c0_1, .int .i64 t21.1]) (by kernel_rfl) (x := .int .i64 t29.1) (Rin := [SlRes e0_1 x0.Events a0_1 c0_1]) (Rout := [SlRes e0_1 t29.2 a0_1 c0_1]) (Rr := [SlRes e0_0 t21.2 a0_0 c0_0]) rfl (fun w => (by have vv := c_laws_markEventS (e0_0 := e0_1) (a0_0 := a0_1) (c0_0 := c0_1) (W := w) h30; exact vv)) (sl' := [(12, vi t29.1), (11, vi t21.1), (10, .v (.slice a0_1 x0.Events.length c0_1)), (0, .v (vMember (Member.mk x0.Birth x0.Joined t21.2 x0.Events) ((a0_0, c0_0), (a0_1, c0_1))))]) (by kernel_rfl) ?_
 refine JO_eqE (sl' := [(12, vi t29.1), (11, vi t21.1), (10, .v (.slice a0_1 t29.2.length c0_1)), (0, .v (vMember (Member.mk x0.Birth x0.Joined t21.2 t29.2) ((a0_0, c0_0), (a0_1, c0_1))))]) (bx' := [(52, (eMember (Member.mk x0.Birth x0.Joined t21.2 t29.2) ((a0_0, c0_0), (a0_1, c0_1))))]) (by simp only [eMember, vMember, hl36]) (by simp only [eMember, vMember, hl36]) ?_
 refine oN 1 [(1, vi t29.1)] [0] ?_
 refine oe (nt (qs (qr (oN 2 [(4, vi t29.1)] [0] ?_))))
 refine oe (nt (qe (rt [.int .i64 t29.1] (fun γ w hs => ?_))))
 rw [← sI h35]
 exact hs.turned (is := [1, 0]) rfl

theorem c_laws_markCase {W : World} {x0 : Case} {a0_0 : Option Addr} {c0_0 : Nat} {e0_0 : TypeId} {a0_1 : Option Addr} {c0_1 : Nat} {e0_1 : TypeId} {a0_2 : Option Addr} {c0_2 : Nat} {e0_2 : TypeId} {a0_3 : Option Addr} {c0_3 : Nat} {e0_3 : TypeId} {a0_4 : Option Addr} {c0_4 : Nat} {e0_4 : TypeId} {x1 : Int} {r : Int × (List Rule) × (List Fact) × (List Point) × (List Spell) × (List Event)} (h : laws_markCase x0 x1 = some r)  :
    GivesM Tryz.prog 23 #[vCase x0 ((a0_0, c0_0), (a0_1, c0_1), (a0_2, c0_2), (a0_3, c0_3), (a0_4, c0_4)), .int .i64 x1] W [SlRes e0_0 x0.Book.Rules a0_0 c0_0, SlRes e0_1 x0.Store.Facts a0_1 c0_1, SlRes e0_2 x0.Series.Points a0_2 c0_2, SlRes e0_3 x0.Member.Spells a0_3 c0_3, SlRes e0_4 x0.Member.Events a0_4 c0_4] [SlRes e0_0 r.2.1 a0_0 c0_0, SlRes e0_1 r.2.2.1 a0_1 c0_1, SlRes e0_2 r.2.2.2.1 a0_2 c0_2, SlRes e0_3 r.2.2.2.2.1 a0_3 c0_3, SlRes e0_4 r.2.2.2.2.2 a0_4 c0_4] (.int .i64 r.1) := by
 unfold laws_markCase at h
 refine enM Tryz.func23 Tryz.ntmps23 (fun Fs => ?_)
 refine qs (qr (oB 2 [(2, .p 0 0)] [0, 1] [(54, (eCase x0 ((a0_0, c0_0), (a0_1, c0_1), (a0_2, c0_2), (a0_3, c0_3), (a0_4, c0_4))))] ?_))
 refine oe (nt (qs (qr (oN 3 [(7, vi x1), (6, .v (vBook x0.Book (a0_0, c0_0)))] [2, 0] ?_))))
 obtain ⟨t21, h22, h23⟩ := bS h
 obtain ⟨u25, hu26, h27⟩ := bS h23
 have hl28 := (sameLen_some hu26).symm
 refine JO_callM rfl (by kernel_rfl) (f := 68) (args := #[vBook x0.Book (a0_0, c0_0), .int .i64 x1]) (by kernel_rfl) (x := .int .i64 t21.1) (Rin := [SlRes e0_0 x0.Book.Rules a0_0 c0_0]) (Rout := [SlRes e0_0 t21.2 a0_0 c0_0]) (Rr := [SlRes e0_1 x0.Store.Facts a0_1 c0_1, SlRes e0_2 x0.Series.Points a0_2 c0_2, SlRes e0_3 x0.Member.Spells a0_3 c0_3, SlRes e0_4 x0.Member.Events a0_4 c0_4]) rfl (fun w => (by have vv := c_laws_markBook (e0_0 := e0_0) (a0_0 := a0_0) (c0_0 := c0_0) (W := w) h22; exact vv)) (sl' := [(8, vi t21.1), (7, vi x1), (6, .v (vBook x0.Book (a0_0, c0_0))), (2, .p 0 0), (0, .v (vCase x0 ((a0_0, c0_0), (a0_1, c0_1), (a0_2, c0_2), (a0_3, c0_3), (a0_4, c0_4))))]) (by kernel_rfl) ?_
 refine JO_eqE (sl' := [(8, vi t21.1), (7, vi x1), (6, .v (vBook (Book.mk t21.2) (a0_0, c0_0))), (2, .p 0 0), (0, .v (vCase (Case.mk (Book.mk t21.2) x0.Store x0.Series x0.Member) ((a0_0, c0_0), (a0_1, c0_1), (a0_2, c0_2), (a0_3, c0_3), (a0_4, c0_4))))]) (bx' := [(54, (eCase (Case.mk (Book.mk t21.2) x0.Store x0.Series x0.Member) ((a0_0, c0_0), (a0_1, c0_1), (a0_2, c0_2), (a0_3, c0_3), (a0_4, c0_4))))]) (by simp only [eBook, eCase, vBook, vCase, hl28]) (by simp only [eCase, vCase, hl28]) ?_
 refine oN 1 [(1, vi t21.1)] [2, 0] ?_
 refine oe (nt (qs (qr (oN 3 [(11, vi t21.1), (10, .v (vStore x0.Store (a0_1, c0_1)))] [2, 0] ?_))))
 refine JO_res (R' := [SlRes e0_1 x0.Store.Facts a0_1 c0_1, SlRes e0_0 t21.2 a0_0 c0_0, SlRes e0_2 x0.Series.Points a0_2 c0_2, SlRes e0_3 x0.Member.Spells a0_3 c0_3, SlRes e0_4 x0.Member.Events a0_4 c0_4]) [1, 0, 0, 0, 0] (by kernel_rfl) ?_
 obtain ⟨t29, h30, h31⟩ := bS h27
 obtain ⟨u33, hu34, h35⟩ := bS h31
 have hl36 := (sameLen_some hu34).symm
 refine JO_callM rfl (by kernel_rfl) (f := 69) (args := #[vStore x0.Store (a0_1, c0_1), .int .i64 t21.1]) (by kernel_rfl) (x := .int .i64 t29.1) (Rin := [SlRes e0_1 x0.Store.Facts a0_1 c0_1]) (Rout := [SlRes e0_1 t29.2 a0_1 c0_1]) (Rr := [SlRes e0_0 t21.2 a0_0 c0_0, SlRes e0_2 x0.Series.Points a0_2 c0_2, SlRes e0_3 x0.Member.Spells a0_3 c0_3, SlRes e0_4 x0.Member.Events a0_4 c0_4]) rfl (fun w => (by have vv := c_laws_markStore (e0_0 := e0_1) (a0_0 := a0_1) (c0_0 := c0_1) (W := w) h30; exact vv)) (sl' := [(12, vi t29.1), (11, vi t21.1), (10, .v (vStore x0.Store (a0_1, c0_1))), (2, .p 0 0), (0, .v (vCase (Case.mk (Book.mk t21.2) x0.Store x0.Series x0.Member) ((a0_0, c0_0), (a0_1, c0_1), (a0_2, c0_2), (a0_3, c0_3), (a0_4, c0_4))))]) (by kernel_rfl) ?_
 refine JO_eqE (sl' := [(12, vi t29.1), (11, vi t21.1), (10, .v (vStore (Store.mk t29.2) (a0_1, c0_1))), (2, .p 0 0), (0, .v (vCase (Case.mk (Book.mk t21.2) (Store.mk t29.2) x0.Series x0.Member) ((a0_0, c0_0), (a0_1, c0_1), (a0_2, c0_2), (a0_3, c0_3), (a0_4, c0_4))))]) (bx' := [(54, (eCase (Case.mk (Book.mk t21.2) (Store.mk t29.2) x0.Series x0.Member) ((a0_0, c0_0), (a0_1, c0_1), (a0_2, c0_2), (a0_3, c0_3), (a0_4, c0_4))))]) (by simp only [eCase, eStore, vCase, vStore, hl36]) (by simp only [eCase, vCase, hl36]) ?_
 refine oN 1 [(1, vi t29.1)] [2, 0] ?_
 refine oe (nt (qs (qr (oN 3 [(15, vi t29.1), (14, .v (vSeries x0.Series (a0_2, c0_2)))] [2, 0] ?_))))
 refine JO_res (R' := [SlRes e0_2 x0.Series.Points a0_2 c0_2, SlRes e0_1 t29.2 a0_1 c0_1, SlRes e0_0 t21.2 a0_0 c0_0, SlRes e0_3 x0.Member.Spells a0_3 c0_3, SlRes e0_4 x0.Member.Events a0_4 c0_4]) [2, 0, 0, 0, 0] (by kernel_rfl) ?_
 obtain ⟨t37, h38, h39⟩ := bS h35
 obtain ⟨u41, hu42, h43⟩ := bS h39
 have hl44 := (sameLen_some hu42).symm
 refine JO_callM rfl (by kernel_rfl) (f := 70) (args := #[vSeries x0.Series (a0_2, c0_2), .int .i64 t29.1]) (by kernel_rfl) (x := .int .i64 t37.1) (Rin := [SlRes e0_2 x0.Series.Points a0_2 c0_2]) (Rout := [SlRes e0_2 t37.2 a0_2 c0_2]) (Rr := [SlRes e0_1 t29.2 a0_1 c0_1, SlRes e0_0 t21.2 a0_0 c0_0, SlRes e0_3 x0.Member.Spells a0_3 c0_3, SlRes e0_4 x0.Member.Events a0_4 c0_4]) rfl (fun w => (by have vv := c_laws_markSeries (e0_0 := e0_2) (a0_0 := a0_2) (c0_0 := c0_2) (W := w) h38; exact vv)) (sl' := [(16, vi t37.1), (15, vi t29.1), (14, .v (vSeries x0.Series (a0_2, c0_2))), (2, .p 0 0), (0, .v (vCase (Case.mk (Book.mk t21.2) (Store.mk t29.2) x0.Series x0.Member) ((a0_0, c0_0), (a0_1, c0_1), (a0_2, c0_2), (a0_3, c0_3), (a0_4, c0_4))))]) (by kernel_rfl) ?_
 refine JO_eqE (sl' := [(16, vi t37.1), (15, vi t29.1), (14, .v (.agg #[.slice a0_2 t37.2.length c0_2])), (2, .p 0 0), (0, .v (vCase (Case.mk (Book.mk t21.2) (Store.mk t29.2) (Series.mk t37.2) x0.Member) ((a0_0, c0_0), (a0_1, c0_1), (a0_2, c0_2), (a0_3, c0_3), (a0_4, c0_4))))]) (bx' := [(54, (eCase (Case.mk (Book.mk t21.2) (Store.mk t29.2) (Series.mk t37.2) x0.Member) ((a0_0, c0_0), (a0_1, c0_1), (a0_2, c0_2), (a0_3, c0_3), (a0_4, c0_4))))]) (by simp only [eCase, eSeries, vCase, vSeries, hl44]) (by simp only [eCase, vCase, hl44]) ?_
 refine oN 1 [(1, vi t37.1)] [2, 0] ?_
 refine oe (nt (qs (qr (oN 3 [(19, vi t37.1), (18, .v (vMember x0.Member ((a0_3, c0_3), (a0_4, c0_4))))] [0] ?_))))
 refine JO_res (R' := [SlRes e0_3 x0.Member.Spells a0_3 c0_3, SlRes e0_4 x0.Member.Events a0_4 c0_4, SlRes e0_2 t37.2 a0_2 c0_2, SlRes e0_1 t29.2 a0_1 c0_1, SlRes e0_0 t21.2 a0_0 c0_0]) [3, 3, 0, 0, 0] (by kernel_rfl) ?_
 obtain ⟨t45, h46, h47⟩ := bS h43
 obtain ⟨u49, hu50, h51⟩ := bS h47
 have hl52 := (sameLen_some hu50).symm
 obtain ⟨u53, hu54, h55⟩ := bS h51
 have hl56 := (sameLen_some hu54).symm
 refine JO_callM rfl (by kernel_rfl) (f := 71) (args := #[vMember x0.Member ((a0_3, c0_3), (a0_4, c0_4)), .int .i64 t37.1]) (by kernel_rfl) (x := .int .i64 t45.1) (Rin := [SlRes e0_3 x0.Member.Spells a0_3 c0_3, SlRes e0_4 x0.Member.Events a0_4 c0_4]) (Rout := [SlRes e0_3 t45.2.1 a0_3 c0_3, SlRes e0_4 t45.2.2 a0_4 c0_4]) (Rr := [SlRes e0_2 t37.2 a0_2 c0_2, SlRes e0_1 t29.2 a0_1 c0_1, SlRes e0_0 t21.2 a0_0 c0_0]) rfl (fun w => (by have vv := c_laws_markMember (e0_0 := e0_3) (a0_0 := a0_3) (c0_0 := c0_3) (e0_1 := e0_4) (a0_1 := a0_4) (c0_1 := c0_4) (W := w) h46; exact vv)) (sl' := [(20, vi t45.1), (19, vi t37.1), (18, .v (vMember x0.Member ((a0_3, c0_3), (a0_4, c0_4)))), (0, .v (vCase (Case.mk (Book.mk t21.2) (Store.mk t29.2) (Series.mk t37.2) x0.Member) ((a0_0, c0_0), (a0_1, c0_1), (a0_2, c0_2), (a0_3, c0_3), (a0_4, c0_4))))]) (by kernel_rfl) ?_
 refine JO_eqE (sl' := [(20, vi t45.1), (19, vi t37.1), (18, .v (vMember (Member.mk x0.Member.Birth x0.Member.Joined t45.2.1 t45.2.2) ((a0_3, c0_3), (a0_4, c0_4)))), (0, .v (vCase (Case.mk (Book.mk t21.2) (Store.mk t29.2) (Series.mk t37.2) (Member.mk x0.Member.Birth x0.Member.Joined t45.2.1 t45.2.2)) ((a0_0, c0_0), (a0_1, c0_1), (a0_2, c0_2), (a0_3, c0_3), (a0_4, c0_4))))]) (bx' := [(54, (eCase (Case.mk (Book.mk t21.2) (Store.mk t29.2) (Series.mk t37.2) (Member.mk x0.Member.Birth x0.Member.Joined t45.2.1 t45.2.2)) ((a0_0, c0_0), (a0_1, c0_1), (a0_2, c0_2), (a0_3, c0_3), (a0_4, c0_4))))]) (by simp only [eCase, eMember, vCase, vMember, hl52, hl56]) (by simp only [eCase, vCase, hl52, hl56]) ?_
 refine oN 1 [(1, vi t45.1)] [0] ?_
 refine oe (nt (qs (qr (oN 2 [(4, vi t45.1)] [0] ?_))))
 refine oe (nt (qe (rt [.int .i64 t45.1] (fun γ w hs => ?_))))
 rw [← sI h55]
 exact hs.turned (is := [4, 3, 2, 0, 0]) rfl

theorem c_laws_markIntS {W : World} {x0 : List Int} {a0_0 : Option Addr} {c0_0 : Nat} {e0_0 : TypeId} {x1 : Int} {r : Int × (List Int)} (h : laws_markIntS x0 x1 = some r)  :
    GivesM Tryz.prog 26 #[.slice a0_0 x0.length c0_0, .int .i64 x1] W [SlRes e0_0 x0 a0_0 c0_0] [SlRes e0_0 r.2 a0_0 c0_0] (.int .i64 r.1) := by
 unfold laws_markIntS at h
 refine enM Tryz.func26 Tryz.ntmps26 (fun Fs => ?_)
 refine qs (qr (oN 1 [] [0, 1] ?_))
 refine oe (nt (qs (qs (qr (oN 1 [(5, vi 0)] [0, 1] ?_)))))
 refine oe (nt ?_)
 obtain ⟨r24, hL25, h26⟩ := bS h
 obtain ⟨k27, hk28, h26⟩ := brkS h26
 refine JC_cutP (τ := ((List Int) × Int) × (Unit)) (fun y => k27 y.1 = some r) (fun y32 => [(0, .v (.slice a0_0 y32.1.1.length c0_0)), (1, vi y32.1.2)]) (fun y32 => []) (fun y32 => [SlRes e0_0 y32.1.1 a0_0 c0_0]) ?_ (fun y32 h33p => ?_)
 · refine qb (lp Unit hL25 (fun s21 y22 => [(5, vi s21.1), (0, .v (.slice a0_0 s21.2.1.length c0_0)), (1, vi s21.2.2)]) (fun s21 y22 => []) (fun s21 y22 => [SlRes e0_0 s21.2.1 a0_0 c0_0]) () [5, 0, 1] [0] 0 (fun s21 y22 t23 h29 hd30 => ?_))
   refine qs (qs (qr (oN 4 [(9, vb (decide (s21.1 < (s21.2.1.length : Int))))] [5, 0, 1] ?_)))
   refine oe (nt (cC h29 (fun h35 => ?_) (fun h36 => ?_)))
   · refine qk (nt (qs (qb (qs (qr (oN 3 [(14, vi s21.2.2), (13, vi s21.1), (12, .v (.slice a0_0 s21.2.1.length c0_0))] [5, 0, 1] ?_))))))
     obtain ⟨x37, hx38, h39⟩ := bS h35
     refine oi 1 (fun γ w hs => (hs.view 0 rfl)) hx38 ?_
     obtain ⟨l40, hm41, h42⟩ := bS h39
     replace hm41 := (sI hm41).symm
     refine JO_storeq (α := Int) (d := a0_0) (vs := [.int .i64 s21.2.2]) (j := s21.1) (x' := s21.2.2) rfl (by kernel_rfl) 0 (by kernel_rfl) hx38 (Rc := []) (Rr := []) rfl (by kernel_rfl) (fun w c F Fs ho _ _ => own_flat_set (by kernel_rfl) ho) hm41 rfl ?_
     have hl43 := len_set hm41
     refine JO_keep [14, 13, 12, 5, 0, 1] (sl' := [(14, vi s21.2.2), (13, vi s21.1), (12, .v (.slice a0_0 s21.2.1.length c0_0)), (5, vi s21.1), (0, .v (.slice a0_0 s21.2.1.length c0_0)), (1, vi s21.2.2)]) (by kernel_rfl) ?_
     refine JO_eqE (sl' := [(14, vi s21.2.2), (13, vi s21.1), (12, .v (.slice a0_0 l40.length c0_0)), (5, vi s21.1), (0, .v (.slice a0_0 l40.length c0_0)), (1, vi s21.2.2)]) (bx' := []) (by simp only [hl43]) rfl ?_
     refine oe (nt (qr (oN 3 [(1, vi (w64 (s21.2.2 + 1)))] [5, 0] ?_)))
     refine oe (bn (nt (qr (oN 3 [(5, vi (w64 (s21.1 + 1)))] [1, 0] ?_))))
     exact oe (ct h42 () [5, 0, 1] [0] 0)
   refine qx (nx (nx (bh ?_)))
   have h44 := leafB hd30 h36 h26
   exact mp ((s21.2.1, s21.2.2), ()) h44 [0, 1] [0] 0
 have h33 := (congrFun hk28 _).symm.trans h33p
 refine nt (qs (qr (oN 2 [(4, vi y32.1.2)] [0] ?_)))
 refine oe (nt (qe (rt [.int .i64 y32.1.2] (fun γ w hs => ?_))))
 rw [← sI h33]
 exact hs.turned (is := [0]) rfl

theorem c_laws_markOffice {W : World} {x0 : Office} {a0_0 : Option Addr} {c0_0 : Nat} {e0_0 : TypeId} {a0_1 : Option Addr} {c0_1 : Nat} {e0_1 : TypeId} {a0_2 : Option Addr} {c0_2 : Nat} {e0_2 : TypeId} {a0_3 : Option Addr} {c0_3 : Nat} {e0_3 : TypeId} {a0_4 : Option Addr} {c0_4 : Nat} {e0_4 : TypeId} {a0_5 : Option Addr} {c0_5 : Nat} {e0_5 : TypeId} {x1 : Int} {r : Int × (List Rule) × (List Fact) × (List Point) × (List Spell) × (List Event) × (List Int)} (h : laws_markOffice x0 x1 = some r)  :
    GivesM Tryz.prog 25 #[vOffice x0 ((a0_0, c0_0), (a0_1, c0_1), (a0_2, c0_2), (a0_3, c0_3), (a0_4, c0_4), (a0_5, c0_5)), .int .i64 x1] W [SlRes e0_0 x0.Case.Book.Rules a0_0 c0_0, SlRes e0_1 x0.Case.Store.Facts a0_1 c0_1, SlRes e0_2 x0.Case.Series.Points a0_2 c0_2, SlRes e0_3 x0.Case.Member.Spells a0_3 c0_3, SlRes e0_4 x0.Case.Member.Events a0_4 c0_4, SlRes e0_5 x0.Paid a0_5 c0_5] [SlRes e0_0 r.2.1 a0_0 c0_0, SlRes e0_1 r.2.2.1 a0_1 c0_1, SlRes e0_2 r.2.2.2.1 a0_2 c0_2, SlRes e0_3 r.2.2.2.2.1 a0_3 c0_3, SlRes e0_4 r.2.2.2.2.2.1 a0_4 c0_4, SlRes e0_5 r.2.2.2.2.2.2 a0_5 c0_5] (.int .i64 r.1) := by
 unfold laws_markOffice at h
 refine enM Tryz.func25 Tryz.ntmps25 (fun Fs => ?_)
 refine qs (qr (oB 2 [(2, .p 0 0)] [0, 1] [(57, (eOffice x0 ((a0_0, c0_0), (a0_1, c0_1), (a0_2, c0_2), (a0_3, c0_3), (a0_4, c0_4), (a0_5, c0_5))))] ?_))
 refine oe (nt (qs (qr (oN 3 [(7, vi x1), (6, .v (vCase x0.Case ((a0_0, c0_0), (a0_1, c0_1), (a0_2, c0_2), (a0_3, c0_3), (a0_4, c0_4))))] [2, 0] ?_))))
 obtain ⟨t21, h22, h23⟩ := bS h
 obtain ⟨u25, hu26, h27⟩ := bS h23
 have hl28 := (sameLen_some hu26).symm
 obtain ⟨u29, hu30, h31⟩ := bS h27
 have hl32 := (sameLen_some hu30).symm
 obtain ⟨u33, hu34, h35⟩ := bS h31
 have hl36 := (sameLen_some hu34).symm
 obtain ⟨u37, hu38, h39⟩ := bS h35
 have hl40 := (sameLen_some hu38).symm
 obtain ⟨u41, hu42, h43⟩ := bS h39
 have hl44 := (sameLen_some hu42).symm
 refine JO_callM rfl (by kernel_rfl) (f := 23) (args := #[vCase x0.Case ((a0_0, c0_0), (a0_1, c0_1), (a0_2, c0_2), (a0_3, c0_3), (a0_4, c0_4)), .int .i64 x1]) (by kernel_rfl) (x := .int .i64 t21.1) (Rin := [SlRes e0_0 x0.Case.Book.Rules a0_0 c0_0, SlRes e0_1 x0.Case.Store.Facts a0_1 c0_1, SlRes e0_2 x0.Case.Series.Points a0_2 c0_2, SlRes e0_3 x0.Case.Member.Spells a0_3 c0_3, SlRes e0_4 x0.Case.Member.Events a0_4 c0_4]) (Rout := [SlRes e0_0 t21.2.1 a0_0 c0_0, SlRes e0_1 t21.2.2.1 a0_1 c0_1, SlRes e0_2 t21.2.2.2.1 a0_2 c0_2, SlRes e0_3 t21.2.2.2.2.1 a0_3 c0_3, SlRes e0_4 t21.2.2.2.2.2 a0_4 c0_4]) (Rr := [SlRes e0_5 x0.Paid a0_5 c0_5]) rfl (fun w => (by have vv := c_laws_markCase (e0_0 := e0_0) (a0_0 := a0_0) (c0_0 := c0_0) (e0_1 := e0_1) (a0_1 := a0_1) (c0_1 := c0_1) (e0_2 := e0_2) (a0_2 := a0_2) (c0_2 := c0_2) (e0_3 := e0_3) (a0_3 := a0_3) (c0_3 := c0_3) (e0_4 := e0_4) (a0_4 := a0_4) (c0_4 := c0_4) (W := w) h22; exact vv)) (sl' := [(8, vi t21.1), (7, vi x1), (6, .v (vCase x0.Case ((a0_0, c0_0), (a0_1, c0_1), (a0_2, c0_2), (a0_3, c0_3), (a0_4, c0_4)))), (2, .p 0 0), (0, .v (vOffice x0 ((a0_0, c0_0), (a0_1, c0_1), (a0_2, c0_2), (a0_3, c0_3), (a0_4, c0_4), (a0_5, c0_5))))]) (by kernel_rfl) ?_
 refine JO_eqE (sl' := [(8, vi t21.1), (7, vi x1), (6, .v (vCase (Case.mk (Book.mk t21.2.1) (Store.mk t21.2.2.1) (Series.mk t21.2.2.2.1) (Member.mk x0.Case.Member.Birth x0.Case.Member.Joined t21.2.2.2.2.1 t21.2.2.2.2.2)) ((a0_0, c0_0), (a0_1, c0_1), (a0_2, c0_2), (a0_3, c0_3), (a0_4, c0_4)))), (2, .p 0 0), (0, .v (vOffice (Office.mk (Case.mk (Book.mk t21.2.1) (Store.mk t21.2.2.1) (Series.mk t21.2.2.2.1) (Member.mk x0.Case.Member.Birth x0.Case.Member.Joined t21.2.2.2.2.1 t21.2.2.2.2.2)) x0.Start x0.Paid) ((a0_0, c0_0), (a0_1, c0_1), (a0_2, c0_2), (a0_3, c0_3), (a0_4, c0_4), (a0_5, c0_5))))]) (bx' := [(57, (eOffice (Office.mk (Case.mk (Book.mk t21.2.1) (Store.mk t21.2.2.1) (Series.mk t21.2.2.2.1) (Member.mk x0.Case.Member.Birth x0.Case.Member.Joined t21.2.2.2.2.1 t21.2.2.2.2.2)) x0.Start x0.Paid) ((a0_0, c0_0), (a0_1, c0_1), (a0_2, c0_2), (a0_3, c0_3), (a0_4, c0_4), (a0_5, c0_5))))]) (by simp only [eCase, eOffice, vCase, vOffice, hl28, hl32, hl36, hl40, hl44]) (by simp only [eOffice, vOffice, hl28, hl32, hl36, hl40, hl44]) ?_
 refine oN 1 [(1, vi t21.1)] [2, 0] ?_
 refine oe (nt (qs (qr (oN 3 [(11, vi t21.1), (10, .v (.slice a0_5 x0.Paid.length c0_5))] [0] ?_))))
 refine JO_res (R' := [SlRes e0_5 x0.Paid a0_5 c0_5, SlRes e0_0 t21.2.1 a0_0 c0_0, SlRes e0_1 t21.2.2.1 a0_1 c0_1, SlRes e0_2 t21.2.2.2.1 a0_2 c0_2, SlRes e0_3 t21.2.2.2.2.1 a0_3 c0_3, SlRes e0_4 t21.2.2.2.2.2 a0_4 c0_4]) [5, 0, 0, 0, 0, 0] (by kernel_rfl) ?_
 obtain ⟨t45, h46, h47⟩ := bS h43
 obtain ⟨u49, hu50, h51⟩ := bS h47
 have hl52 := (sameLen_some hu50).symm
 refine JO_callM rfl (by kernel_rfl) (f := 26) (args := #[.slice a0_5 x0.Paid.length c0_5, .int .i64 t21.1]) (by kernel_rfl) (x := .int .i64 t45.1) (Rin := [SlRes e0_5 x0.Paid a0_5 c0_5]) (Rout := [SlRes e0_5 t45.2 a0_5 c0_5]) (Rr := [SlRes e0_0 t21.2.1 a0_0 c0_0, SlRes e0_1 t21.2.2.1 a0_1 c0_1, SlRes e0_2 t21.2.2.2.1 a0_2 c0_2, SlRes e0_3 t21.2.2.2.2.1 a0_3 c0_3, SlRes e0_4 t21.2.2.2.2.2 a0_4 c0_4]) rfl (fun w => (by have vv := c_laws_markIntS (e0_0 := e0_5) (a0_0 := a0_5) (c0_0 := c0_5) (W := w) h46; exact vv)) (sl' := [(12, vi t45.1), (11, vi t21.1), (10, .v (.slice a0_5 x0.Paid.length c0_5)), (0, .v (vOffice (Office.mk (Case.mk (Book.mk t21.2.1) (Store.mk t21.2.2.1) (Series.mk t21.2.2.2.1) (Member.mk x0.Case.Member.Birth x0.Case.Member.Joined t21.2.2.2.2.1 t21.2.2.2.2.2)) x0.Start x0.Paid) ((a0_0, c0_0), (a0_1, c0_1), (a0_2, c0_2), (a0_3, c0_3), (a0_4, c0_4), (a0_5, c0_5))))]) (by kernel_rfl) ?_
 refine JO_eqE (sl' := [(12, vi t45.1), (11, vi t21.1), (10, .v (.slice a0_5 t45.2.length c0_5)), (0, .v (vOffice (Office.mk (Case.mk (Book.mk t21.2.1) (Store.mk t21.2.2.1) (Series.mk t21.2.2.2.1) (Member.mk x0.Case.Member.Birth x0.Case.Member.Joined t21.2.2.2.2.1 t21.2.2.2.2.2)) x0.Start t45.2) ((a0_0, c0_0), (a0_1, c0_1), (a0_2, c0_2), (a0_3, c0_3), (a0_4, c0_4), (a0_5, c0_5))))]) (bx' := [(57, (eOffice (Office.mk (Case.mk (Book.mk t21.2.1) (Store.mk t21.2.2.1) (Series.mk t21.2.2.2.1) (Member.mk x0.Case.Member.Birth x0.Case.Member.Joined t21.2.2.2.2.1 t21.2.2.2.2.2)) x0.Start t45.2) ((a0_0, c0_0), (a0_1, c0_1), (a0_2, c0_2), (a0_3, c0_3), (a0_4, c0_4), (a0_5, c0_5))))]) (by simp only [eOffice, vOffice, hl52]) (by simp only [eOffice, vOffice, hl52]) ?_
 refine oN 1 [(1, vi t45.1)] [0] ?_
 refine oe (nt (qs (qr (oN 2 [(4, vi t45.1)] [0] ?_))))
 refine oe (nt (qe (rt [.int .i64 t45.1] (fun γ w hs => ?_))))
 rw [← sI h51]
 exact hs.turned (is := [1, 1, 1, 1, 1, 0]) rfl

theorem c_laws_heldNodeS {W : World} {x0 : List Node} {a0_0 : Option Addr} {c0_0 : Nat} {x1 : Int} {r : Int} (h : laws_heldNodeS x0 x1 = some r) (hv0_0 : SlView W x0 a0_0 c0_0) :
    Gives0 Tryz.prog 207 #[.slice a0_0 x0.length c0_0, .int .i64 x1] W (.int .i64 r) := by
 unfold laws_heldNodeS at h
 refine en Tryz.func207 Tryz.ntmps207 ?_
 refine qs (qr (oN 1 [] [0, 1] ?_))
 refine oe (nt (qs (qs (qr (oN 1 [(5, vi 0)] [0, 1] ?_)))))
 refine oe (nt ?_)
 obtain ⟨r24, hL25, h26⟩ := bS h
 obtain ⟨k27, hk28, h26⟩ := brkS h26
 refine JC_cutP (τ := (Int) × (Unit)) (fun y => k27 y.1 = some r) (fun y32 => [(1, vi y32.1)]) (fun y32 => []) (fun y32 => []) ?_ (fun y32 h33p => ?_)
 · refine qb (lp Unit hL25 (fun s21 y22 => [(5, vi s21.1), (0, .v (.slice a0_0 x0.length c0_0)), (1, vi s21.2)]) (fun s21 y22 => []) (fun s21 y22 => []) () [5, 0, 1] [] 0 (fun s21 y22 t23 h29 hd30 => ?_))
   refine qs (qs (qr (oN 4 [(9, vb (decide (s21.1 < (x0.length : Int))))] [5, 0, 1] ?_)))
   refine oe (nt (cC h29 (fun h35 => ?_) (fun h36 => ?_)))
   · refine qk (nt (qs (qb (qs (qs (qr (oN 2 [(13, vi s21.1), (12, .v (.slice a0_0 x0.length c0_0))] [5, 0, 1] ?_)))))))
     obtain ⟨x37, hx38, h39⟩ := bS h35
     refine oi 6 (fun γ w hs => (hv0_0.kept hs.kept)) hx38 ?_
     refine oN 1 [(15, .q a0_0 (Int.toNat s21.1 * 6))] [5, 0, 1] ?_
     refine ol 3 0 (.int .i64 x37.Kind) (fun γ w hs => (hv0_0.kept hs.kept).flatq hx38) ?_
     refine oN 2 [(18, vb (x37.Kind != s21.2))] [5, 0, 1] ?_
     refine oe (nt (cC h39 (fun h41 => ?_) (fun h42 => ?_)))
     · refine qs (qr (oN 1 [(4, vi (-1))] [] ?_))
       refine oe (nt (qe (nr (br (nr (nr ?_))))))
       have h43 := leafR hd30 h41 h26
       refine br (nr (nr ?_))
       obtain rfl := sI h43
       exact re [.int .i64 (-1)]
     refine qk (nt (qs (qr (oN 3 [(1, vi (w64 (s21.2 + 1)))] [5, 0] ?_))))
     refine oe (nt (qs (qs (qr (oN 2 [(22, vi s21.1), (21, .v (.slice a0_0 x0.length c0_0))] [1, 5, 0] ?_)))))
     obtain ⟨x44, hx45, h46⟩ := bS h42
     refine oi 6 (fun γ w hs => (hv0_0.kept hs.kept)) hx45 ?_
     refine oN 1 [(24, .q a0_0 (Int.toNat s21.1 * 6 + 1))] [1, 5, 0] ?_
     refine ol 3 1 (.int .i64 x44.A) (fun γ w hs => (hv0_0.kept hs.kept).flatq hx45) ?_
     refine oN 2 [(27, vb (x44.A != (w64 (s21.2 + 1))))] [1, 5, 0] ?_
     refine oe (nt (cC h46 (fun h48 => ?_) (fun h49 => ?_)))
     · refine qs (qr (oN 1 [(4, vi (-1))] [] ?_))
       refine oe (nt (qe (nr (br (nr (nr ?_))))))
       have h50 := leafR hd30 h48 h26
       refine br (nr (nr ?_))
       obtain rfl := sI h50
       exact re [.int .i64 (-1)]
     refine qk (nt (qs (qr (oN 3 [(1, vi (w64 ((w64 (s21.2 + 1)) + 1)))] [5, 0] ?_))))
     refine oe (nt (qs (qs (qr (oN 2 [(31, vi s21.1), (30, .v (.slice a0_0 x0.length c0_0))] [1, 5, 0] ?_)))))
     obtain ⟨x51, hx52, h53⟩ := bS h49
     refine oi 6 (fun γ w hs => (hv0_0.kept hs.kept)) hx52 ?_
     refine oN 1 [(33, .q a0_0 (Int.toNat s21.1 * 6 + 2))] [1, 5, 0] ?_
     refine ol 3 2 (.int .i64 x51.B) (fun γ w hs => (hv0_0.kept hs.kept).flatq hx52) ?_
     refine oN 2 [(36, vb (x51.B != (w64 ((w64 (s21.2 + 1)) + 1))))] [1, 5, 0] ?_
     refine oe (nt (cC h53 (fun h55 => ?_) (fun h56 => ?_)))
     · refine qs (qr (oN 1 [(4, vi (-1))] [] ?_))
       refine oe (nt (qe (nr (br (nr (nr ?_))))))
       have h57 := leafR hd30 h55 h26
       refine br (nr (nr ?_))
       obtain rfl := sI h57
       exact re [.int .i64 (-1)]
     refine qk (nt (qs (qr (oN 3 [(1, vi (w64 ((w64 ((w64 (s21.2 + 1)) + 1)) + 1)))] [5, 0] ?_))))
     refine oe (nt (qs (qs (qr (oN 2 [(40, vi s21.1), (39, .v (.slice a0_0 x0.length c0_0))] [1, 5, 0] ?_)))))
     obtain ⟨x58, hx59, h60⟩ := bS h56
     refine oi 6 (fun γ w hs => (hv0_0.kept hs.kept)) hx59 ?_
     refine oN 1 [(42, .q a0_0 (Int.toNat s21.1 * 6 + 3))] [1, 5, 0] ?_
     refine ol 3 3 (.int .i64 x58.C) (fun γ w hs => (hv0_0.kept hs.kept).flatq hx59) ?_
     refine oN 2 [(45, vb (x58.C != (w64 ((w64 ((w64 (s21.2 + 1)) + 1)) + 1))))] [1, 5, 0] ?_
     refine oe (nt (cC h60 (fun h62 => ?_) (fun h63 => ?_)))
     · refine qs (qr (oN 1 [(4, vi (-1))] [] ?_))
       refine oe (nt (qe (nr (br (nr (nr ?_))))))
       have h64 := leafR hd30 h62 h26
       refine br (nr (nr ?_))
       obtain rfl := sI h64
       exact re [.int .i64 (-1)]
     refine qk (nt (qs (qr (oN 3 [(1, vi (w64 ((w64 ((w64 ((w64 (s21.2 + 1)) + 1)) + 1)) + 1)))] [5, 0] ?_))))
     refine oe (nt (qs (qs (qr (oN 2 [(49, vi s21.1), (48, .v (.slice a0_0 x0.length c0_0))] [1, 5, 0] ?_)))))
     obtain ⟨x65, hx66, h67⟩ := bS h63
     refine oi 6 (fun γ w hs => (hv0_0.kept hs.kept)) hx66 ?_
     refine oN 2 [(52, .q a0_0 (Int.toNat s21.1 * 6 + 4))] [1, 5, 0] ?_
     refine ol 3 4 (.int .i64 x65.Value.Num) (fun γ w hs => (hv0_0.kept hs.kept).flatq hx66) ?_
     refine oN 2 [(55, vb (x65.Value.Num != (w64 ((w64 ((w64 ((w64 (s21.2 + 1)) + 1)) + 1)) + 1))))] [1, 5, 0] ?_
     refine oe (nt (cC h67 (fun h69 => ?_) (fun h70 => ?_)))
     · refine qs (qr (oN 1 [(4, vi (-1))] [] ?_))
       refine oe (nt (qe (nr (br (nr (nr ?_))))))
       have h71 := leafR hd30 h69 h26
       refine br (nr (nr ?_))
       obtain rfl := sI h71
       exact re [.int .i64 (-1)]
     refine qk (nt (qs (qr (oN 3 [(1, vi (w64 ((w64 ((w64 ((w64 ((w64 (s21.2 + 1)) + 1)) + 1)) + 1)) + 1)))] [5, 0] ?_))))
     refine oe (nt (qs (qs (qr (oN 2 [(59, vi s21.1), (58, .v (.slice a0_0 x0.length c0_0))] [1, 5, 0] ?_)))))
     obtain ⟨x72, hx73, h74⟩ := bS h70
     refine oi 6 (fun γ w hs => (hv0_0.kept hs.kept)) hx73 ?_
     refine oN 2 [(62, .q a0_0 (Int.toNat s21.1 * 6 + 5))] [1, 5, 0] ?_
     refine ol 3 5 (.int .i64 x72.Value.Den) (fun γ w hs => (hv0_0.kept hs.kept).flatq hx73) ?_
     refine oN 2 [(65, vb (x72.Value.Den != (w64 ((w64 ((w64 ((w64 ((w64 (s21.2 + 1)) + 1)) + 1)) + 1)) + 1))))] [1, 5, 0] ?_
     refine oe (nt (cC h74 (fun h76 => ?_) (fun h77 => ?_)))
     · refine qs (qr (oN 1 [(4, vi (-1))] [] ?_))
       refine oe (nt (qe (nr (br (nr (nr ?_))))))
       have h78 := leafR hd30 h76 h26
       refine br (nr (nr ?_))
       obtain rfl := sI h78
       exact re [.int .i64 (-1)]
     refine qk (nt (qr (oN 3 [(1, vi (w64 ((w64 ((w64 ((w64 ((w64 ((w64 (s21.2 + 1)) + 1)) + 1)) + 1)) + 1)) + 1)))] [5, 0] ?_)))
     refine oe (bn (nt (qr (oN 3 [(5, vi (w64 (s21.1 + 1)))] [1, 0] ?_))))
     exact oe (ct h77 () [5, 0, 1] [] 0)
   refine qx (nx (nx (bh ?_)))
   have h79 := leafB hd30 h36 h26
   exact mp (s21.2, ()) h79 [1] [] 0
 have h33 := (congrFun hk28 _).symm.trans h33p
 refine nt (qs (qr (oN 2 [(4, vi y32.1)] [] ?_)))
 refine oe (nt (qe ?_))
 obtain rfl := sI h33
 exact re [.int .i64 y32.1]

theorem c_laws_heldRuleS {W : World} {x0 : List Rule} {a0_0 : Option Addr} {c0_0 : Nat} {x1 : Int} {r : Int} (h : laws_heldRuleS x0 x1 = some r) (hv0_0 : SlView W x0 a0_0 c0_0) :
    Gives0 Tryz.prog 159 #[.slice a0_0 x0.length c0_0, .int .i64 x1] W (.int .i64 r) := by
 unfold laws_heldRuleS at h
 refine en Tryz.func159 Tryz.ntmps159 ?_
 refine qs (qr (oN 1 [] [0, 1] ?_))
 refine oe (nt (qs (qs (qr (oN 1 [(5, vi 0)] [0, 1] ?_)))))
 refine oe (nt ?_)
 obtain ⟨r24, hL25, h26⟩ := bS h
 obtain ⟨k27, hk28, h26⟩ := brkS h26
 refine JC_cutP (τ := (Int) × (Unit)) (fun y => k27 y.1 = some r) (fun y32 => [(1, vi y32.1)]) (fun y32 => []) (fun y32 => []) ?_ (fun y32 h33p => ?_)
 · refine qb (lp Unit hL25 (fun s21 y22 => [(5, vi s21.1), (0, .v (.slice a0_0 x0.length c0_0)), (1, vi s21.2)]) (fun s21 y22 => []) (fun s21 y22 => []) () [5, 0, 1] [] 0 (fun s21 y22 t23 h29 hd30 => ?_))
   refine qs (qs (qr (oN 4 [(9, vb (decide (s21.1 < (x0.length : Int))))] [5, 0, 1] ?_)))
   refine oe (nt (cC h29 (fun h35 => ?_) (fun h36 => ?_)))
   · refine qk (nt (qs (qb (qs (qs (qr (oN 2 [(13, vi s21.1), (12, .v (.slice a0_0 x0.length c0_0))] [5, 0, 1] ?_)))))))
     obtain ⟨x37, hx38, h39⟩ := bS h35
     refine oi 7 (fun γ w hs => (hv0_0.kept hs.kept)) hx38 ?_
     refine oN 1 [(15, .q a0_0 (Int.toNat s21.1 * 7))] [5, 0, 1] ?_
     obtain ⟨_, ⟨a40, c41, rfl, hv42⟩, hc43⟩ := SlView.at hv0_0 (idx_some hx38).2.2
     refine ol 3 0 (.int .i64 x37.Name) (fun γ w hs => ⟨(hv0_0.kept hs.kept).ne (idx_some hx38).2.2, hc43.kept hs.kept⟩) ?_
     refine oN 2 [(18, vb (x37.Name != s21.2))] [5, 0, 1] ?_
     refine oe (nt (cC h39 (fun h45 => ?_) (fun h46 => ?_)))
     · refine qs (qr (oN 1 [(4, vi (-1))] [] ?_))
       refine oe (nt (qe (nr (br (nr (nr ?_))))))
       have h47 := leafR hd30 h45 h26
       refine br (nr (nr ?_))
       obtain rfl := sI h47
       exact re [.int .i64 (-1)]
     refine qk (nt (qs (qr (oN 3 [(1, vi (w64 (s21.2 + 1)))] [5, 0] ?_))))
     refine oe (nt (qs (qs (qr (oN 2 [(22, vi s21.1), (21, .v (.slice a0_0 x0.length c0_0))] [1, 5, 0] ?_)))))
     obtain ⟨x48, hx49, h50⟩ := bS h46
     refine oi 7 (fun γ w hs => (hv0_0.kept hs.kept)) hx49 ?_
     refine oN 1 [(24, .q a0_0 (Int.toNat s21.1 * 7 + 1))] [1, 5, 0] ?_
     obtain ⟨_, ⟨a51, c52, rfl, hv53⟩, hc54⟩ := SlView.at hv0_0 (idx_some hx49).2.2
     refine ol 3 1 (.int .i64 x48.From) (fun γ w hs => ⟨(hv0_0.kept hs.kept).ne (idx_some hx49).2.2, hc54.kept hs.kept⟩) ?_
     refine oN 2 [(27, vb (x48.From != (w64 (s21.2 + 1))))] [1, 5, 0] ?_
     refine oe (nt (cC h50 (fun h56 => ?_) (fun h57 => ?_)))
     · refine qs (qr (oN 1 [(4, vi (-1))] [] ?_))
       refine oe (nt (qe (nr (br (nr (nr ?_))))))
       have h58 := leafR hd30 h56 h26
       refine br (nr (nr ?_))
       obtain rfl := sI h58
       exact re [.int .i64 (-1)]
     refine qk (nt (qs (qr (oN 3 [(1, vi (w64 ((w64 (s21.2 + 1)) + 1)))] [5, 0] ?_))))
     refine oe (nt (qs (qs (qr (oN 2 [(31, vi s21.1), (30, .v (.slice a0_0 x0.length c0_0))] [1, 5, 0] ?_)))))
     obtain ⟨x59, hx60, h61⟩ := bS h57
     refine oi 7 (fun γ w hs => (hv0_0.kept hs.kept)) hx60 ?_
     refine oN 1 [(33, .q a0_0 (Int.toNat s21.1 * 7 + 2))] [1, 5, 0] ?_
     obtain ⟨_, ⟨a62, c63, rfl, hv64⟩, hc65⟩ := SlView.at hv0_0 (idx_some hx60).2.2
     refine ol 3 2 (.int .i64 x59.To) (fun γ w hs => ⟨(hv0_0.kept hs.kept).ne (idx_some hx60).2.2, hc65.kept hs.kept⟩) ?_
     refine oN 2 [(36, vb (x59.To != (w64 ((w64 (s21.2 + 1)) + 1))))] [1, 5, 0] ?_
     refine oe (nt (cC h61 (fun h67 => ?_) (fun h68 => ?_)))
     · refine qs (qr (oN 1 [(4, vi (-1))] [] ?_))
       refine oe (nt (qe (nr (br (nr (nr ?_))))))
       have h69 := leafR hd30 h67 h26
       refine br (nr (nr ?_))
       obtain rfl := sI h69
       exact re [.int .i64 (-1)]
     refine qk (nt (qs (qr (oN 3 [(1, vi (w64 ((w64 ((w64 (s21.2 + 1)) + 1)) + 1)))] [5, 0] ?_))))
     refine oe (nt (qs (qs (qr (oN 2 [(40, vi s21.1), (39, .v (.slice a0_0 x0.length c0_0))] [1, 5, 0] ?_)))))
     obtain ⟨x70, hx71, h72⟩ := bS h68
     refine oi 7 (fun γ w hs => (hv0_0.kept hs.kept)) hx71 ?_
     refine oN 1 [(42, .q a0_0 (Int.toNat s21.1 * 7 + 3))] [1, 5, 0] ?_
     obtain ⟨_, ⟨a73, c74, rfl, hv75⟩, hc76⟩ := SlView.at hv0_0 (idx_some hx71).2.2
     refine ol 3 3 (.int .i64 x70.Joined) (fun γ w hs => ⟨(hv0_0.kept hs.kept).ne (idx_some hx71).2.2, hc76.kept hs.kept⟩) ?_
     refine oN 2 [(45, vb (x70.Joined != (w64 ((w64 ((w64 (s21.2 + 1)) + 1)) + 1))))] [1, 5, 0] ?_
     refine oe (nt (cC h72 (fun h78 => ?_) (fun h79 => ?_)))
     · refine qs (qr (oN 1 [(4, vi (-1))] [] ?_))
       refine oe (nt (qe (nr (br (nr (nr ?_))))))
       have h80 := leafR hd30 h78 h26
       refine br (nr (nr ?_))
       obtain rfl := sI h80
       exact re [.int .i64 (-1)]
     refine qk (nt (qs (qr (oN 3 [(1, vi (w64 ((w64 ((w64 ((w64 (s21.2 + 1)) + 1)) + 1)) + 1)))] [5, 0] ?_))))
     refine oe (nt (qs (qs (qr (oN 2 [(49, vi s21.1), (48, .v (.slice a0_0 x0.length c0_0))] [1, 5, 0] ?_)))))
     obtain ⟨x81, hx82, h83⟩ := bS h79
     refine oi 7 (fun γ w hs => (hv0_0.kept hs.kept)) hx82 ?_
     refine oN 1 [(51, .q a0_0 (Int.toNat s21.1 * 7 + 4))] [1, 5, 0] ?_
     obtain ⟨_, ⟨a84, c85, rfl, hv86⟩, hc87⟩ := SlView.at hv0_0 (idx_some hx82).2.2
     refine ol 3 4 (.int .i64 x81.Rank) (fun γ w hs => ⟨(hv0_0.kept hs.kept).ne (idx_some hx82).2.2, hc87.kept hs.kept⟩) ?_
     refine oN 2 [(54, vb (x81.Rank != (w64 ((w64 ((w64 ((w64 (s21.2 + 1)) + 1)) + 1)) + 1))))] [1, 5, 0] ?_
     refine oe (nt (cC h83 (fun h89 => ?_) (fun h90 => ?_)))
     · refine qs (qr (oN 1 [(4, vi (-1))] [] ?_))
       refine oe (nt (qe (nr (br (nr (nr ?_))))))
       have h91 := leafR hd30 h89 h26
       refine br (nr (nr ?_))
       obtain rfl := sI h91
       exact re [.int .i64 (-1)]
     refine qk (nt (qs (qr (oN 3 [(1, vi (w64 ((w64 ((w64 ((w64 ((w64 (s21.2 + 1)) + 1)) + 1)) + 1)) + 1)))] [5, 0] ?_))))
     refine oe (nt (qs (qs (qr (oN 2 [(58, vi s21.1), (57, .v (.slice a0_0 x0.length c0_0))] [1, 5, 0] ?_)))))
     obtain ⟨x92, hx93, h94⟩ := bS h90
     refine oi 7 (fun γ w hs => (hv0_0.kept hs.kept)) hx93 ?_
     refine oN 1 [(60, .q a0_0 (Int.toNat s21.1 * 7 + 5))] [1, 5, 0] ?_
     obtain ⟨_, ⟨a95, c96, rfl, hv97⟩, hc98⟩ := SlView.at hv0_0 (idx_some hx93).2.2
     refine ol 3 5 (.int .i64 x92.Mode) (fun γ w hs => ⟨(hv0_0.kept hs.kept).ne (idx_some hx93).2.2, hc98.kept hs.kept⟩) ?_
     refine oN 2 [(63, vb (x92.Mode != (w64 ((w64 ((w64 ((w64 ((w64 (s21.2 + 1)) + 1)) + 1)) + 1)) + 1))))] [1, 5, 0] ?_
     refine oe (nt (cC h94 (fun h100 => ?_) (fun h101 => ?_)))
     · refine qs (qr (oN 1 [(4, vi (-1))] [] ?_))
       refine oe (nt (qe (nr (br (nr (nr ?_))))))
       have h102 := leafR hd30 h100 h26
       refine br (nr (nr ?_))
       obtain rfl := sI h102
       exact re [.int .i64 (-1)]
     refine qk (nt (qs (qr (oN 3 [(1, vi (w64 ((w64 ((w64 ((w64 ((w64 ((w64 (s21.2 + 1)) + 1)) + 1)) + 1)) + 1)) + 1)))] [5, 0] ?_))))
     refine oe (nt (qs (qr (oN 2 [(67, vi s21.1), (66, .v (.slice a0_0 x0.length c0_0))] [1, 5, 0] ?_))))
     obtain ⟨x103, hx104, h105⟩ := bS h101
     refine oi 7 (fun γ w hs => (hv0_0.kept hs.kept)) hx104 ?_
     refine oN 1 [(69, .q a0_0 (Int.toNat s21.1 * 7 + 6))] [1, 5, 0] ?_
     obtain ⟨_, ⟨a106, c107, rfl, hv108⟩, hc109⟩ := SlView.at hv0_0 (idx_some hx104).2.2
     refine ol 186 6 (.slice a106 x103.Nodes.length c107) (fun γ w hs => ⟨(hv0_0.kept hs.kept).ne (idx_some hx104).2.2, hc109.kept hs.kept⟩) ?_
     refine oN 1 [(71, vi (w64 ((w64 ((w64 ((w64 ((w64 ((w64 (s21.2 + 1)) + 1)) + 1)) + 1)) + 1)) + 1)))] [70, 5, 0] ?_
     obtain ⟨t110, h111, h112⟩ := bS h105
     refine k0 (fun γ w hs => c_laws_heldNodeS h111 (hv108.kept hs.kept)) ?_
     refine oN 1 [(1, vi t110)] [5, 0] ?_
     refine oe (nt (qs (qr (oN 2 [(74, vb (decide (t110 < 0)))] [1, 5, 0] ?_))))
     refine oe (nt (cC h112 (fun h115 => ?_) (fun h116 => ?_)))
     · refine qs (qr (oN 1 [(4, vi (-1))] [] ?_))
       refine oe (nt (qe (br (nr (nr ?_)))))
       have h117 := leafR hd30 h115 h26
       refine br (nr (nr ?_))
       obtain rfl := sI h117
       exact re [.int .i64 (-1)]
     refine qk (bn (nt (qr (oN 3 [(5, vi (w64 (s21.1 + 1)))] [1, 0] ?_))))
     exact oe (ct h116 () [5, 0, 1] [] 0)
   refine qx (nx (nx (bh ?_)))
   have h118 := leafB hd30 h36 h26
   exact mp (s21.2, ()) h118 [1] [] 0
 have h33 := (congrFun hk28 _).symm.trans h33p
 refine nt (qs (qr (oN 2 [(4, vi y32.1)] [] ?_)))
 refine oe (nt (qe ?_))
 obtain rfl := sI h33
 exact re [.int .i64 y32.1]

theorem c_laws_heldBook {W : World} {x0 : Book} {a0_0 : Option Addr} {c0_0 : Nat} {x1 : Int} {r : Int} (h : laws_heldBook x0 x1 = some r) (hv0_0 : SlView W x0.Rules a0_0 c0_0) :
    Gives0 Tryz.prog 119 #[vBook x0 (a0_0, c0_0), .int .i64 x1] W (.int .i64 r) := by
 unfold laws_heldBook at h
 refine en Tryz.func119 Tryz.ntmps119 ?_
 refine qs (qr (oB 2 [(2, .p 0 0)] [1] [(42, (eBook x0 (a0_0, c0_0)))] ?_))
 refine oe (nt (qs (qr (oN 3 [(7, vi x1), (6, .v (.slice a0_0 x0.Rules.length c0_0))] [] ?_))))
 obtain ⟨t21, h22, h23⟩ := bS h
 refine k0 (fun γ w hs => c_laws_heldRuleS h22 (hv0_0.kept hs.kept)) ?_
 refine oN 1 [(1, vi t21)] [] ?_
 refine oe (nt (qs (qs (qr (oN 2 [(10, vb (decide (t21 < 0)))] [1] ?_)))))
 refine oe (nt (cC h23 (fun h26 => ?_) (fun h27 => ?_)))
 · refine qs (qr (oN 1 [(4, vi (-1))] [] ?_))
   refine oe (nt (qe (nr ?_)))
   obtain rfl := sI h26
   exact re [.int .i64 (-1)]
 refine qk (nt (qs (qr (oN 2 [(4, vi t21)] [] ?_))))
 refine oe (nt (qe ?_))
 obtain rfl := sI h27
 exact re [.int .i64 t21]

theorem c_laws_heldFactS {W : World} {x0 : List Fact} {a0_0 : Option Addr} {c0_0 : Nat} {x1 : Int} {r : Int} (h : laws_heldFactS x0 x1 = some r) (hv0_0 : SlView W x0 a0_0 c0_0) :
    Gives0 Tryz.prog 160 #[.slice a0_0 x0.length c0_0, .int .i64 x1] W (.int .i64 r) := by
 unfold laws_heldFactS at h
 refine en Tryz.func160 Tryz.ntmps160 ?_
 refine qs (qr (oN 1 [] [0, 1] ?_))
 refine oe (nt (qs (qs (qr (oN 1 [(5, vi 0)] [0, 1] ?_)))))
 refine oe (nt ?_)
 obtain ⟨r24, hL25, h26⟩ := bS h
 obtain ⟨k27, hk28, h26⟩ := brkS h26
 refine JC_cutP (τ := (Int) × (Unit)) (fun y => k27 y.1 = some r) (fun y32 => [(1, vi y32.1)]) (fun y32 => []) (fun y32 => []) ?_ (fun y32 h33p => ?_)
 · refine qb (lp Unit hL25 (fun s21 y22 => [(5, vi s21.1), (0, .v (.slice a0_0 x0.length c0_0)), (1, vi s21.2)]) (fun s21 y22 => []) (fun s21 y22 => []) () [5, 0, 1] [] 0 (fun s21 y22 t23 h29 hd30 => ?_))
   refine qs (qs (qr (oN 4 [(9, vb (decide (s21.1 < (x0.length : Int))))] [5, 0, 1] ?_)))
   refine oe (nt (cC h29 (fun h35 => ?_) (fun h36 => ?_)))
   · refine qk (nt (qs (qb (qs (qs (qr (oN 2 [(13, vi s21.1), (12, .v (.slice a0_0 x0.length c0_0))] [5, 0, 1] ?_)))))))
     obtain ⟨x37, hx38, h39⟩ := bS h35
     refine oi 5 (fun γ w hs => (hv0_0.kept hs.kept)) hx38 ?_
     refine oN 1 [(15, .q a0_0 (Int.toNat s21.1 * 5))] [5, 0, 1] ?_
     refine ol 3 0 (.int .i64 x37.Key) (fun γ w hs => (hv0_0.kept hs.kept).flatq hx38) ?_
     refine oN 2 [(18, vb (x37.Key != s21.2))] [5, 0, 1] ?_
     refine oe (nt (cC h39 (fun h41 => ?_) (fun h42 => ?_)))
     · refine qs (qr (oN 1 [(4, vi (-1))] [] ?_))
       refine oe (nt (qe (nr (br (nr (nr ?_))))))
       have h43 := leafR hd30 h41 h26
       refine br (nr (nr ?_))
       obtain rfl := sI h43
       exact re [.int .i64 (-1)]
     refine qk (nt (qs (qr (oN 3 [(1, vi (w64 (s21.2 + 1)))] [5, 0] ?_))))
     refine oe (nt (qs (qs (qr (oN 2 [(22, vi s21.1), (21, .v (.slice a0_0 x0.length c0_0))] [1, 5, 0] ?_)))))
     obtain ⟨x44, hx45, h46⟩ := bS h42
     refine oi 5 (fun γ w hs => (hv0_0.kept hs.kept)) hx45 ?_
     refine oN 1 [(24, .q a0_0 (Int.toNat s21.1 * 5 + 1))] [1, 5, 0] ?_
     refine ol 3 1 (.int .i64 x44.From) (fun γ w hs => (hv0_0.kept hs.kept).flatq hx45) ?_
     refine oN 2 [(27, vb (x44.From != (w64 (s21.2 + 1))))] [1, 5, 0] ?_
     refine oe (nt (cC h46 (fun h48 => ?_) (fun h49 => ?_)))
     · refine qs (qr (oN 1 [(4, vi (-1))] [] ?_))
       refine oe (nt (qe (nr (br (nr (nr ?_))))))
       have h50 := leafR hd30 h48 h26
       refine br (nr (nr ?_))
       obtain rfl := sI h50
       exact re [.int .i64 (-1)]
     refine qk (nt (qs (qr (oN 3 [(1, vi (w64 ((w64 (s21.2 + 1)) + 1)))] [5, 0] ?_))))
     refine oe (nt (qs (qs (qr (oN 2 [(31, vi s21.1), (30, .v (.slice a0_0 x0.length c0_0))] [1, 5, 0] ?_)))))
     obtain ⟨x51, hx52, h53⟩ := bS h49
     refine oi 5 (fun γ w hs => (hv0_0.kept hs.kept)) hx52 ?_
     refine oN 1 [(33, .q a0_0 (Int.toNat s21.1 * 5 + 2))] [1, 5, 0] ?_
     refine ol 3 2 (.int .i64 x51.To) (fun γ w hs => (hv0_0.kept hs.kept).flatq hx52) ?_
     refine oN 2 [(36, vb (x51.To != (w64 ((w64 (s21.2 + 1)) + 1))))] [1, 5, 0] ?_
     refine oe (nt (cC h53 (fun h55 => ?_) (fun h56 => ?_)))
     · refine qs (qr (oN 1 [(4, vi (-1))] [] ?_))
       refine oe (nt (qe (nr (br (nr (nr ?_))))))
       have h57 := leafR hd30 h55 h26
       refine br (nr (nr ?_))
       obtain rfl := sI h57
       exact re [.int .i64 (-1)]
     refine qk (nt (qs (qr (oN 3 [(1, vi (w64 ((w64 ((w64 (s21.2 + 1)) + 1)) + 1)))] [5, 0] ?_))))
     refine oe (nt (qs (qs (qr (oN 2 [(40, vi s21.1), (39, .v (.slice a0_0 x0.length c0_0))] [1, 5, 0] ?_)))))
     obtain ⟨x58, hx59, h60⟩ := bS h56
     refine oi 5 (fun γ w hs => (hv0_0.kept hs.kept)) hx59 ?_
     refine oN 1 [(42, .q a0_0 (Int.toNat s21.1 * 5 + 3))] [1, 5, 0] ?_
     refine ol 3 3 (.int .i64 x58.Known) (fun γ w hs => (hv0_0.kept hs.kept).flatq hx59) ?_
     refine oN 2 [(45, vb (x58.Known != (w64 ((w64 ((w64 (s21.2 + 1)) + 1)) + 1))))] [1, 5, 0] ?_
     refine oe (nt (cC h60 (fun h62 => ?_) (fun h63 => ?_)))
     · refine qs (qr (oN 1 [(4, vi (-1))] [] ?_))
       refine oe (nt (qe (nr (br (nr (nr ?_))))))
       have h64 := leafR hd30 h62 h26
       refine br (nr (nr ?_))
       obtain rfl := sI h64
       exact re [.int .i64 (-1)]
     refine qk (nt (qs (qr (oN 3 [(1, vi (w64 ((w64 ((w64 ((w64 (s21.2 + 1)) + 1)) + 1)) + 1)))] [5, 0] ?_))))
     refine oe (nt (qs (qs (qr (oN 2 [(49, vi s21.1), (48, .v (.slice a0_0 x0.length c0_0))] [1, 5, 0] ?_)))))
     obtain ⟨x65, hx66, h67⟩ := bS h63
     refine oi 5 (fun γ w hs => (hv0_0.kept hs.kept)) hx66 ?_
     refine oN 1 [(51, .q a0_0 (Int.toNat s21.1 * 5 + 4))] [1, 5, 0] ?_
     refine ol 3 4 (.int .i64 x65.Value) (fun γ w hs => (hv0_0.kept hs.kept).flatq hx66) ?_
     refine oN 2 [(54, vb (x65.Value != (w64 ((w64 ((w64 ((w64 (s21.2 + 1)) + 1)) + 1)) + 1))))] [1, 5, 0] ?_
     refine oe (nt (cC h67 (fun h69 => ?_) (fun h70 => ?_)))
     · refine qs (qr (oN 1 [(4, vi (-1))] [] ?_))
       refine oe (nt (qe (nr (br (nr (nr ?_))))))
       have h71 := leafR hd30 h69 h26
       refine br (nr (nr ?_))
       obtain rfl := sI h71
       exact re [.int .i64 (-1)]
     refine qk (nt (qr (oN 3 [(1, vi (w64 ((w64 ((w64 ((w64 ((w64 (s21.2 + 1)) + 1)) + 1)) + 1)) + 1)))] [5, 0] ?_)))
     refine oe (bn (nt (qr (oN 3 [(5, vi (w64 (s21.1 + 1)))] [1, 0] ?_))))
     exact oe (ct h70 () [5, 0, 1] [] 0)
   refine qx (nx (nx (bh ?_)))
   have h72 := leafB hd30 h36 h26
   exact mp (s21.2, ()) h72 [1] [] 0
 have h33 := (congrFun hk28 _).symm.trans h33p
 refine nt (qs (qr (oN 2 [(4, vi y32.1)] [] ?_)))
 refine oe (nt (qe ?_))
 obtain rfl := sI h33
 exact re [.int .i64 y32.1]

theorem c_laws_heldStore {W : World} {x0 : Store} {a0_0 : Option Addr} {c0_0 : Nat} {x1 : Int} {r : Int} (h : laws_heldStore x0 x1 = some r) (hv0_0 : SlView W x0.Facts a0_0 c0_0) :
    Gives0 Tryz.prog 120 #[vStore x0 (a0_0, c0_0), .int .i64 x1] W (.int .i64 r) := by
 unfold laws_heldStore at h
 refine en Tryz.func120 Tryz.ntmps120 ?_
 refine qs (qr (oB 2 [(2, .p 0 0)] [1] [(45, (eStore x0 (a0_0, c0_0)))] ?_))
 refine oe (nt (qs (qr (oN 3 [(7, vi x1), (6, .v (.slice a0_0 x0.Facts.length c0_0))] [] ?_))))
 obtain ⟨t21, h22, h23⟩ := bS h
 refine k0 (fun γ w hs => c_laws_heldFactS h22 (hv0_0.kept hs.kept)) ?_
 refine oN 1 [(1, vi t21)] [] ?_
 refine oe (nt (qs (qs (qr (oN 2 [(10, vb (decide (t21 < 0)))] [1] ?_)))))
 refine oe (nt (cC h23 (fun h26 => ?_) (fun h27 => ?_)))
 · refine qs (qr (oN 1 [(4, vi (-1))] [] ?_))
   refine oe (nt (qe (nr ?_)))
   obtain rfl := sI h26
   exact re [.int .i64 (-1)]
 refine qk (nt (qs (qr (oN 2 [(4, vi t21)] [] ?_))))
 refine oe (nt (qe ?_))
 obtain rfl := sI h27
 exact re [.int .i64 t21]

theorem c_laws_heldPointS {W : World} {x0 : List Point} {a0_0 : Option Addr} {c0_0 : Nat} {x1 : Int} {r : Int} (h : laws_heldPointS x0 x1 = some r) (hv0_0 : SlView W x0 a0_0 c0_0) :
    Gives0 Tryz.prog 161 #[.slice a0_0 x0.length c0_0, .int .i64 x1] W (.int .i64 r) := by
 unfold laws_heldPointS at h
 refine en Tryz.func161 Tryz.ntmps161 ?_
 refine qs (qr (oN 1 [] [0, 1] ?_))
 refine oe (nt (qs (qs (qr (oN 1 [(5, vi 0)] [0, 1] ?_)))))
 refine oe (nt ?_)
 obtain ⟨r24, hL25, h26⟩ := bS h
 obtain ⟨k27, hk28, h26⟩ := brkS h26
 refine JC_cutP (τ := (Int) × (Unit)) (fun y => k27 y.1 = some r) (fun y32 => [(1, vi y32.1)]) (fun y32 => []) (fun y32 => []) ?_ (fun y32 h33p => ?_)
 · refine qb (lp Unit hL25 (fun s21 y22 => [(5, vi s21.1), (0, .v (.slice a0_0 x0.length c0_0)), (1, vi s21.2)]) (fun s21 y22 => []) (fun s21 y22 => []) () [5, 0, 1] [] 0 (fun s21 y22 t23 h29 hd30 => ?_))
   refine qs (qs (qr (oN 4 [(9, vb (decide (s21.1 < (x0.length : Int))))] [5, 0, 1] ?_)))
   refine oe (nt (cC h29 (fun h35 => ?_) (fun h36 => ?_)))
   · refine qk (nt (qs (qb (qs (qs (qr (oN 2 [(13, vi s21.1), (12, .v (.slice a0_0 x0.length c0_0))] [5, 0, 1] ?_)))))))
     obtain ⟨x37, hx38, h39⟩ := bS h35
     refine oi 3 (fun γ w hs => (hv0_0.kept hs.kept)) hx38 ?_
     refine oN 1 [(15, .q a0_0 (Int.toNat s21.1 * 3))] [5, 0, 1] ?_
     refine ol 3 0 (.int .i64 x37.Month) (fun γ w hs => (hv0_0.kept hs.kept).flatq hx38) ?_
     refine oN 2 [(18, vb (x37.Month != s21.2))] [5, 0, 1] ?_
     refine oe (nt (cC h39 (fun h41 => ?_) (fun h42 => ?_)))
     · refine qs (qr (oN 1 [(4, vi (-1))] [] ?_))
       refine oe (nt (qe (nr (br (nr (nr ?_))))))
       have h43 := leafR hd30 h41 h26
       refine br (nr (nr ?_))
       obtain rfl := sI h43
       exact re [.int .i64 (-1)]
     refine qk (nt (qs (qr (oN 3 [(1, vi (w64 (s21.2 + 1)))] [5, 0] ?_))))
     refine oe (nt (qs (qs (qr (oN 2 [(22, vi s21.1), (21, .v (.slice a0_0 x0.length c0_0))] [1, 5, 0] ?_)))))
     obtain ⟨x44, hx45, h46⟩ := bS h42
     refine oi 3 (fun γ w hs => (hv0_0.kept hs.kept)) hx45 ?_
     refine oN 1 [(24, .q a0_0 (Int.toNat s21.1 * 3 + 1))] [1, 5, 0] ?_
     refine ol 3 1 (.int .i64 x44.Known) (fun γ w hs => (hv0_0.kept hs.kept).flatq hx45) ?_
     refine oN 2 [(27, vb (x44.Known != (w64 (s21.2 + 1))))] [1, 5, 0] ?_
     refine oe (nt (cC h46 (fun h48 => ?_) (fun h49 => ?_)))
     · refine qs (qr (oN 1 [(4, vi (-1))] [] ?_))
       refine oe (nt (qe (nr (br (nr (nr ?_))))))
       have h50 := leafR hd30 h48 h26
       refine br (nr (nr ?_))
       obtain rfl := sI h50
       exact re [.int .i64 (-1)]
     refine qk (nt (qs (qr (oN 3 [(1, vi (w64 ((w64 (s21.2 + 1)) + 1)))] [5, 0] ?_))))
     refine oe (nt (qs (qs (qr (oN 2 [(31, vi s21.1), (30, .v (.slice a0_0 x0.length c0_0))] [1, 5, 0] ?_)))))
     obtain ⟨x51, hx52, h53⟩ := bS h49
     refine oi 3 (fun γ w hs => (hv0_0.kept hs.kept)) hx52 ?_
     refine oN 1 [(33, .q a0_0 (Int.toNat s21.1 * 3 + 2))] [1, 5, 0] ?_
     refine ol 3 2 (.int .i64 x51.Value) (fun γ w hs => (hv0_0.kept hs.kept).flatq hx52) ?_
     refine oN 2 [(36, vb (x51.Value != (w64 ((w64 (s21.2 + 1)) + 1))))] [1, 5, 0] ?_
     refine oe (nt (cC h53 (fun h55 => ?_) (fun h56 => ?_)))
     · refine qs (qr (oN 1 [(4, vi (-1))] [] ?_))
       refine oe (nt (qe (nr (br (nr (nr ?_))))))
       have h57 := leafR hd30 h55 h26
       refine br (nr (nr ?_))
       obtain rfl := sI h57
       exact re [.int .i64 (-1)]
     refine qk (nt (qr (oN 3 [(1, vi (w64 ((w64 ((w64 (s21.2 + 1)) + 1)) + 1)))] [5, 0] ?_)))
     refine oe (bn (nt (qr (oN 3 [(5, vi (w64 (s21.1 + 1)))] [1, 0] ?_))))
     exact oe (ct h56 () [5, 0, 1] [] 0)
   refine qx (nx (nx (bh ?_)))
   have h58 := leafB hd30 h36 h26
   exact mp (s21.2, ()) h58 [1] [] 0
 have h33 := (congrFun hk28 _).symm.trans h33p
 refine nt (qs (qr (oN 2 [(4, vi y32.1)] [] ?_)))
 refine oe (nt (qe ?_))
 obtain rfl := sI h33
 exact re [.int .i64 y32.1]

theorem c_laws_heldSeries {W : World} {x0 : Series} {a0_0 : Option Addr} {c0_0 : Nat} {x1 : Int} {r : Int} (h : laws_heldSeries x0 x1 = some r) (hv0_0 : SlView W x0.Points a0_0 c0_0) :
    Gives0 Tryz.prog 121 #[vSeries x0 (a0_0, c0_0), .int .i64 x1] W (.int .i64 r) := by
 unfold laws_heldSeries at h
 refine en Tryz.func121 Tryz.ntmps121 ?_
 refine qs (qr (oB 2 [(2, .p 0 0)] [1] [(48, (eSeries x0 (a0_0, c0_0)))] ?_))
 refine oe (nt (qs (qr (oN 3 [(7, vi x1), (6, .v (.slice a0_0 x0.Points.length c0_0))] [] ?_))))
 obtain ⟨t21, h22, h23⟩ := bS h
 refine k0 (fun γ w hs => c_laws_heldPointS h22 (hv0_0.kept hs.kept)) ?_
 refine oN 1 [(1, vi t21)] [] ?_
 refine oe (nt (qs (qs (qr (oN 2 [(10, vb (decide (t21 < 0)))] [1] ?_)))))
 refine oe (nt (cC h23 (fun h26 => ?_) (fun h27 => ?_)))
 · refine qs (qr (oN 1 [(4, vi (-1))] [] ?_))
   refine oe (nt (qe (nr ?_)))
   obtain rfl := sI h26
   exact re [.int .i64 (-1)]
 refine qk (nt (qs (qr (oN 2 [(4, vi t21)] [] ?_))))
 refine oe (nt (qe ?_))
 obtain rfl := sI h27
 exact re [.int .i64 t21]

theorem c_laws_heldSpellS {W : World} {x0 : List Spell} {a0_0 : Option Addr} {c0_0 : Nat} {x1 : Int} {r : Int} (h : laws_heldSpellS x0 x1 = some r) (hv0_0 : SlView W x0 a0_0 c0_0) :
    Gives0 Tryz.prog 162 #[.slice a0_0 x0.length c0_0, .int .i64 x1] W (.int .i64 r) := by
 unfold laws_heldSpellS at h
 refine en Tryz.func162 Tryz.ntmps162 ?_
 refine qs (qr (oN 1 [] [0, 1] ?_))
 refine oe (nt (qs (qs (qr (oN 1 [(5, vi 0)] [0, 1] ?_)))))
 refine oe (nt ?_)
 obtain ⟨r24, hL25, h26⟩ := bS h
 obtain ⟨k27, hk28, h26⟩ := brkS h26
 refine JC_cutP (τ := (Int) × (Unit)) (fun y => k27 y.1 = some r) (fun y32 => [(1, vi y32.1)]) (fun y32 => []) (fun y32 => []) ?_ (fun y32 h33p => ?_)
 · refine qb (lp Unit hL25 (fun s21 y22 => [(5, vi s21.1), (0, .v (.slice a0_0 x0.length c0_0)), (1, vi s21.2)]) (fun s21 y22 => []) (fun s21 y22 => []) () [5, 0, 1] [] 0 (fun s21 y22 t23 h29 hd30 => ?_))
   refine qs (qs (qr (oN 4 [(9, vb (decide (s21.1 < (x0.length : Int))))] [5, 0, 1] ?_)))
   refine oe (nt (cC h29 (fun h35 => ?_) (fun h36 => ?_)))
   · refine qk (nt (qs (qb (qs (qs (qr (oN 2 [(13, vi s21.1), (12, .v (.slice a0_0 x0.length c0_0))] [5, 0, 1] ?_)))))))
     obtain ⟨x37, hx38, h39⟩ := bS h35
     refine oi 4 (fun γ w hs => (hv0_0.kept hs.kept)) hx38 ?_
     refine oN 1 [(15, .q a0_0 (Int.toNat s21.1 * 4))] [5, 0, 1] ?_
     refine ol 3 0 (.int .i64 x37.From) (fun γ w hs => (hv0_0.kept hs.kept).flatq hx38) ?_
     refine oN 2 [(18, vb (x37.From != s21.2))] [5, 0, 1] ?_
     refine oe (nt (cC h39 (fun h41 => ?_) (fun h42 => ?_)))
     · refine qs (qr (oN 1 [(4, vi (-1))] [] ?_))
       refine oe (nt (qe (nr (br (nr (nr ?_))))))
       have h43 := leafR hd30 h41 h26
       refine br (nr (nr ?_))
       obtain rfl := sI h43
       exact re [.int .i64 (-1)]
     refine qk (nt (qs (qr (oN 3 [(1, vi (w64 (s21.2 + 1)))] [5, 0] ?_))))
     refine oe (nt (qs (qs (qr (oN 2 [(22, vi s21.1), (21, .v (.slice a0_0 x0.length c0_0))] [1, 5, 0] ?_)))))
     obtain ⟨x44, hx45, h46⟩ := bS h42
     refine oi 4 (fun γ w hs => (hv0_0.kept hs.kept)) hx45 ?_
     refine oN 1 [(24, .q a0_0 (Int.toNat s21.1 * 4 + 1))] [1, 5, 0] ?_
     refine ol 3 1 (.int .i64 x44.To) (fun γ w hs => (hv0_0.kept hs.kept).flatq hx45) ?_
     refine oN 2 [(27, vb (x44.To != (w64 (s21.2 + 1))))] [1, 5, 0] ?_
     refine oe (nt (cC h46 (fun h48 => ?_) (fun h49 => ?_)))
     · refine qs (qr (oN 1 [(4, vi (-1))] [] ?_))
       refine oe (nt (qe (nr (br (nr (nr ?_))))))
       have h50 := leafR hd30 h48 h26
       refine br (nr (nr ?_))
       obtain rfl := sI h50
       exact re [.int .i64 (-1)]
     refine qk (nt (qs (qr (oN 3 [(1, vi (w64 ((w64 (s21.2 + 1)) + 1)))] [5, 0] ?_))))
     refine oe (nt (qs (qs (qr (oN 2 [(31, vi s21.1), (30, .v (.slice a0_0 x0.length c0_0))] [1, 5, 0] ?_)))))
     obtain ⟨x51, hx52, h53⟩ := bS h49
     refine oi 4 (fun γ w hs => (hv0_0.kept hs.kept)) hx52 ?_
     refine oN 1 [(33, .q a0_0 (Int.toNat s21.1 * 4 + 2))] [1, 5, 0] ?_
     refine ol 3 2 (.int .i64 x51.Percent) (fun γ w hs => (hv0_0.kept hs.kept).flatq hx52) ?_
     refine oN 2 [(36, vb (x51.Percent != (w64 ((w64 (s21.2 + 1)) + 1))))] [1, 5, 0] ?_
     refine oe (nt (cC h53 (fun h55 => ?_) (fun h56 => ?_)))
     · refine qs (qr (oN 1 [(4, vi (-1))] [] ?_))
       refine oe (nt (qe (nr (br (nr (nr ?_))))))
       have h57 := leafR hd30 h55 h26
       refine br (nr (nr ?_))
       obtain rfl := sI h57
       exact re [.int .i64 (-1)]
     refine qk (nt (qs (qr (oN 3 [(1, vi (w64 ((w64 ((w64 (s21.2 + 1)) + 1)) + 1)))] [5, 0] ?_))))
     refine oe (nt (qs (qs (qr (oN 2 [(40, vi s21.1), (39, .v (.slice a0_0 x0.length c0_0))] [1, 5, 0] ?_)))))
     obtain ⟨x58, hx59, h60⟩ := bS h56
     refine oi 4 (fun γ w hs => (hv0_0.kept hs.kept)) hx59 ?_
     refine oN 1 [(42, .q a0_0 (Int.toNat s21.1 * 4 + 3))] [1, 5, 0] ?_
     refine ol 4 3 (.bool x58.Leave) (fun γ w hs => (hv0_0.kept hs.kept).flatq hx59) ?_
     refine oN 4 [(47, vb (!(x58.Leave == ((Int.tmod (w64 ((w64 ((w64 (s21.2 + 1)) + 1)) + 1)) 3) == 0))))] [1, 5, 0] ?_
     refine oe (nt (cC h60 (fun h62 => ?_) (fun h63 => ?_)))
     · refine qs (qr (oN 1 [(4, vi (-1))] [] ?_))
       refine oe (nt (qe (nr (br (nr (nr ?_))))))
       have h64 := leafR hd30 h62 h26
       refine br (nr (nr ?_))
       obtain rfl := sI h64
       exact re [.int .i64 (-1)]
     refine qk (nt (qr (oN 3 [(1, vi (w64 ((w64 ((w64 ((w64 (s21.2 + 1)) + 1)) + 1)) + 1)))] [5, 0] ?_)))
     refine oe (bn (nt (qr (oN 3 [(5, vi (w64 (s21.1 + 1)))] [1, 0] ?_))))
     exact oe (ct h63 () [5, 0, 1] [] 0)
   refine qx (nx (nx (bh ?_)))
   have h65 := leafB hd30 h36 h26
   exact mp (s21.2, ()) h65 [1] [] 0
 have h33 := (congrFun hk28 _).symm.trans h33p
 refine nt (qs (qr (oN 2 [(4, vi y32.1)] [] ?_)))
 refine oe (nt (qe ?_))
 obtain rfl := sI h33
 exact re [.int .i64 y32.1]

theorem c_laws_heldEventS {W : World} {x0 : List Event} {a0_0 : Option Addr} {c0_0 : Nat} {x1 : Int} {r : Int} (h : laws_heldEventS x0 x1 = some r) (hv0_0 : SlView W x0 a0_0 c0_0) :
    Gives0 Tryz.prog 163 #[.slice a0_0 x0.length c0_0, .int .i64 x1] W (.int .i64 r) := by
 unfold laws_heldEventS at h
 refine en Tryz.func163 Tryz.ntmps163 ?_
 refine qs (qr (oN 1 [] [0, 1] ?_))
 refine oe (nt (qs (qs (qr (oN 1 [(5, vi 0)] [0, 1] ?_)))))
 refine oe (nt ?_)
 obtain ⟨r24, hL25, h26⟩ := bS h
 obtain ⟨k27, hk28, h26⟩ := brkS h26
 refine JC_cutP (τ := (Int) × (Unit)) (fun y => k27 y.1 = some r) (fun y32 => [(1, vi y32.1)]) (fun y32 => []) (fun y32 => []) ?_ (fun y32 h33p => ?_)
 · refine qb (lp Unit hL25 (fun s21 y22 => [(5, vi s21.1), (0, .v (.slice a0_0 x0.length c0_0)), (1, vi s21.2)]) (fun s21 y22 => []) (fun s21 y22 => []) () [5, 0, 1] [] 0 (fun s21 y22 t23 h29 hd30 => ?_))
   refine qs (qs (qr (oN 4 [(9, vb (decide (s21.1 < (x0.length : Int))))] [5, 0, 1] ?_)))
   refine oe (nt (cC h29 (fun h35 => ?_) (fun h36 => ?_)))
   · refine qk (nt (qs (qb (qs (qs (qr (oN 2 [(13, vi s21.1), (12, .v (.slice a0_0 x0.length c0_0))] [5, 0, 1] ?_)))))))
     obtain ⟨x37, hx38, h39⟩ := bS h35
     refine oi 2 (fun γ w hs => (hv0_0.kept hs.kept)) hx38 ?_
     refine oN 1 [(15, .q a0_0 (Int.toNat s21.1 * 2))] [5, 0, 1] ?_
     refine ol 3 0 (.int .i64 x37.Kind) (fun γ w hs => (hv0_0.kept hs.kept).flatq hx38) ?_
     refine oN 2 [(18, vb (x37.Kind != s21.2))] [5, 0, 1] ?_
     refine oe (nt (cC h39 (fun h41 => ?_) (fun h42 => ?_)))
     · refine qs (qr (oN 1 [(4, vi (-1))] [] ?_))
       refine oe (nt (qe (nr (br (nr (nr ?_))))))
       have h43 := leafR hd30 h41 h26
       refine br (nr (nr ?_))
       obtain rfl := sI h43
       exact re [.int .i64 (-1)]
     refine qk (nt (qs (qr (oN 3 [(1, vi (w64 (s21.2 + 1)))] [5, 0] ?_))))
     refine oe (nt (qs (qs (qr (oN 2 [(22, vi s21.1), (21, .v (.slice a0_0 x0.length c0_0))] [1, 5, 0] ?_)))))
     obtain ⟨x44, hx45, h46⟩ := bS h42
     refine oi 2 (fun γ w hs => (hv0_0.kept hs.kept)) hx45 ?_
     refine oN 1 [(24, .q a0_0 (Int.toNat s21.1 * 2 + 1))] [1, 5, 0] ?_
     refine ol 3 1 (.int .i64 x44.Month) (fun γ w hs => (hv0_0.kept hs.kept).flatq hx45) ?_
     refine oN 2 [(27, vb (x44.Month != (w64 (s21.2 + 1))))] [1, 5, 0] ?_
     refine oe (nt (cC h46 (fun h48 => ?_) (fun h49 => ?_)))
     · refine qs (qr (oN 1 [(4, vi (-1))] [] ?_))
       refine oe (nt (qe (nr (br (nr (nr ?_))))))
       have h50 := leafR hd30 h48 h26
       refine br (nr (nr ?_))
       obtain rfl := sI h50
       exact re [.int .i64 (-1)]
     refine qk (nt (qr (oN 3 [(1, vi (w64 ((w64 (s21.2 + 1)) + 1)))] [5, 0] ?_)))
     refine oe (bn (nt (qr (oN 3 [(5, vi (w64 (s21.1 + 1)))] [1, 0] ?_))))
     exact oe (ct h49 () [5, 0, 1] [] 0)
   refine qx (nx (nx (bh ?_)))
   have h51 := leafB hd30 h36 h26
   exact mp (s21.2, ()) h51 [1] [] 0
 have h33 := (congrFun hk28 _).symm.trans h33p
 refine nt (qs (qr (oN 2 [(4, vi y32.1)] [] ?_)))
 refine oe (nt (qe ?_))
 obtain rfl := sI h33
 exact re [.int .i64 y32.1]

theorem c_laws_heldMember {W : World} {x0 : Member} {b0 : AC × AC} {x1 : Int} {r : Int} (h : laws_heldMember x0 x1 = some r) (hv0_0 : SlView W x0.Spells b0.1.1 b0.1.2) (hv0_1 : SlView W x0.Events b0.2.1 b0.2.2) :
    Gives0 Tryz.prog 122 #[vMember x0 b0, .int .i64 x1] W (.int .i64 r) := by
 unfold laws_heldMember at h
 refine en Tryz.func122 Tryz.ntmps122 ?_
 refine qs (qr (oB 2 [(2, .p 0 0)] [1] [(52, (eMember x0 b0))] ?_))
 refine oe (nt (qs (qr (oN 3 [(7, vi x1), (6, .v (.slice b0.1.1 x0.Spells.length b0.1.2))] [2] ?_))))
 obtain ⟨t21, h22, h23⟩ := bS h
 refine k0 (fun γ w hs => c_laws_heldSpellS h22 (hv0_0.kept hs.kept)) ?_
 refine oN 1 [(1, vi t21)] [2] ?_
 refine oe (nt (qs (qs (qr (oN 2 [(10, vb (decide (t21 < 0)))] [1, 2] ?_)))))
 refine oe (nt (cC h23 (fun h26 => ?_) (fun h27 => ?_)))
 · refine qs (qr (oN 1 [(4, vi (-1))] [] ?_))
   refine oe (nt (qe (nr ?_)))
   obtain rfl := sI h26
   exact re [.int .i64 (-1)]
 refine qk (nt (qs (qr (oN 3 [(13, vi t21), (12, .v (.slice b0.2.1 x0.Events.length b0.2.2))] [] ?_))))
 obtain ⟨t28, h29, h30⟩ := bS h27
 refine k0 (fun γ w hs => c_laws_heldEventS h29 (hv0_1.kept hs.kept)) ?_
 refine oN 1 [(1, vi t28)] [] ?_
 refine oe (nt (qs (qs (qr (oN 2 [(16, vb (decide (t28 < 0)))] [1] ?_)))))
 refine oe (nt (cC h30 (fun h33 => ?_) (fun h34 => ?_)))
 · refine qs (qr (oN 1 [(4, vi (-1))] [] ?_))
   refine oe (nt (qe (nr ?_)))
   obtain rfl := sI h33
   exact re [.int .i64 (-1)]
 refine qk (nt (qs (qr (oN 2 [(4, vi t28)] [] ?_))))
 refine oe (nt (qe ?_))
 obtain rfl := sI h34
 exact re [.int .i64 t28]

theorem c_laws_heldCase {W : World} {x0 : Case} {b0 : AC × AC × AC × AC × AC} {x1 : Int} {r : Int} (h : laws_heldCase x0 x1 = some r) (hv0_0 : SlView W x0.Book.Rules b0.1.1 b0.1.2) (hv0_1 : SlView W x0.Store.Facts b0.2.1.1 b0.2.1.2) (hv0_2 : SlView W x0.Series.Points b0.2.2.1.1 b0.2.2.1.2) (hv0_3 : SlView W x0.Member.Spells b0.2.2.2.1.1 b0.2.2.2.1.2) (hv0_4 : SlView W x0.Member.Events b0.2.2.2.2.1 b0.2.2.2.2.2) :
    Gives0 Tryz.prog 72 #[vCase x0 b0, .int .i64 x1] W (.int .i64 r) := by
 unfold laws_heldCase at h
 refine en Tryz.func72 Tryz.ntmps72 ?_
 refine qs (qr (oB 2 [(2, .p 0 0)] [1] [(54, (eCase x0 b0))] ?_))
 refine oe (nt (qs (qr (oN 3 [(7, vi x1), (6, .v (vBook x0.Book b0.1))] [2] ?_))))
 obtain ⟨t21, h22, h23⟩ := bS h
 refine k0 (fun γ w hs => c_laws_heldBook h22 (hv0_0.kept hs.kept)) ?_
 refine oN 1 [(1, vi t21)] [2] ?_
 refine oe (nt (qs (qs (qr (oN 2 [(10, vb (decide (t21 < 0)))] [1, 2] ?_)))))
 refine oe (nt (cC h23 (fun h26 => ?_) (fun h27 => ?_)))
 · refine qs (qr (oN 1 [(4, vi (-1))] [] ?_))
   refine oe (nt (qe (nr ?_)))
   obtain rfl := sI h26
   exact re [.int .i64 (-1)]
 refine qk (nt (qs (qr (oN 3 [(13, vi t21), (12, .v (vStore x0.Store b0.2.1))] [2] ?_))))
 obtain ⟨t28, h29, h30⟩ := bS h27
 refine k0 (fun γ w hs => c_laws_heldStore h29 (hv0_1.kept hs.kept)) ?_
 refine oN 1 [(1, vi t28)] [2] ?_
 refine oe (nt (qs (qs (qr (oN 2 [(16, vb (decide (t28 < 0)))] [1, 2] ?_)))))
 refine oe (nt (cC h30 (fun h33 => ?_) (fun h34 => ?_)))
 · refine qs (qr (oN 1 [(4, vi (-1))] [] ?_))
   refine oe (nt (qe (nr ?_)))
   obtain rfl := sI h33
   exact re [.int .i64 (-1)]
 refine qk (nt (qs (qr (oN 3 [(19, vi t28), (18, .v (vSeries x0.Series b0.2.2.1))] [2] ?_))))
 obtain ⟨t35, h36, h37⟩ := bS h34
 refine k0 (fun γ w hs => c_laws_heldSeries h36 (hv0_2.kept hs.kept)) ?_
 refine oN 1 [(1, vi t35)] [2] ?_
 refine oe (nt (qs (qs (qr (oN 2 [(22, vb (decide (t35 < 0)))] [1, 2] ?_)))))
 refine oe (nt (cC h37 (fun h40 => ?_) (fun h41 => ?_)))
 · refine qs (qr (oN 1 [(4, vi (-1))] [] ?_))
   refine oe (nt (qe (nr ?_)))
   obtain rfl := sI h40
   exact re [.int .i64 (-1)]
 refine qk (nt (qs (qr (oN 3 [(25, vi t35), (24, .v (vMember x0.Member b0.2.2.2))] [] ?_))))
 obtain ⟨t42, h43, h44⟩ := bS h41
 refine k0 (fun γ w hs => c_laws_heldMember (b0 := b0.2.2.2) h43 (hv0_3.kept hs.kept) (hv0_4.kept hs.kept)) ?_
 refine oN 1 [(1, vi t42)] [] ?_
 refine oe (nt (qs (qs (qr (oN 2 [(28, vb (decide (t42 < 0)))] [1] ?_)))))
 refine oe (nt (cC h44 (fun h47 => ?_) (fun h48 => ?_)))
 · refine qs (qr (oN 1 [(4, vi (-1))] [] ?_))
   refine oe (nt (qe (nr ?_)))
   obtain rfl := sI h47
   exact re [.int .i64 (-1)]
 refine qk (nt (qs (qr (oN 2 [(4, vi t42)] [] ?_))))
 refine oe (nt (qe ?_))
 obtain rfl := sI h48
 exact re [.int .i64 t42]

theorem c_laws_heldIntS {W : World} {x0 : List Int} {a0_0 : Option Addr} {c0_0 : Nat} {x1 : Int} {r : Int} (h : laws_heldIntS x0 x1 = some r) (hv0_0 : SlView W x0 a0_0 c0_0) :
    Gives0 Tryz.prog 28 #[.slice a0_0 x0.length c0_0, .int .i64 x1] W (.int .i64 r) := by
 unfold laws_heldIntS at h
 refine en Tryz.func28 Tryz.ntmps28 ?_
 refine qs (qr (oN 1 [] [0, 1] ?_))
 refine oe (nt (qs (qs (qr (oN 1 [(5, vi 0)] [0, 1] ?_)))))
 refine oe (nt ?_)
 obtain ⟨r24, hL25, h26⟩ := bS h
 obtain ⟨k27, hk28, h26⟩ := brkS h26
 refine JC_cutP (τ := (Int) × (Unit)) (fun y => k27 y.1 = some r) (fun y32 => [(1, vi y32.1)]) (fun y32 => []) (fun y32 => []) ?_ (fun y32 h33p => ?_)
 · refine qb (lp Unit hL25 (fun s21 y22 => [(5, vi s21.1), (0, .v (.slice a0_0 x0.length c0_0)), (1, vi s21.2)]) (fun s21 y22 => []) (fun s21 y22 => []) () [5, 0, 1] [] 0 (fun s21 y22 t23 h29 hd30 => ?_))
   refine qs (qs (qr (oN 4 [(9, vb (decide (s21.1 < (x0.length : Int))))] [5, 0, 1] ?_)))
   refine oe (nt (cC h29 (fun h35 => ?_) (fun h36 => ?_)))
   · refine qk (nt (qs (qb (qs (qs (qr (oN 2 [(13, vi s21.1), (12, .v (.slice a0_0 x0.length c0_0))] [5, 0, 1] ?_)))))))
     obtain ⟨x37, hx38, h39⟩ := bS h35
     refine oi 1 (fun γ w hs => (hv0_0.kept hs.kept)) hx38 ?_
     refine ol 3 0 (.int .i64 x37) (fun γ w hs => (hv0_0.kept hs.kept).flatq hx38) ?_
     refine oN 2 [(17, vb (x37 != s21.2))] [5, 0, 1] ?_
     refine oe (nt (cC h39 (fun h41 => ?_) (fun h42 => ?_)))
     · refine qs (qr (oN 1 [(4, vi (-1))] [] ?_))
       refine oe (nt (qe (nr (br (nr (nr ?_))))))
       have h43 := leafR hd30 h41 h26
       refine br (nr (nr ?_))
       obtain rfl := sI h43
       exact re [.int .i64 (-1)]
     refine qk (nt (qr (oN 3 [(1, vi (w64 (s21.2 + 1)))] [5, 0] ?_)))
     refine oe (bn (nt (qr (oN 3 [(5, vi (w64 (s21.1 + 1)))] [1, 0] ?_))))
     exact oe (ct h42 () [5, 0, 1] [] 0)
   refine qx (nx (nx (bh ?_)))
   have h44 := leafB hd30 h36 h26
   exact mp (s21.2, ()) h44 [1] [] 0
 have h33 := (congrFun hk28 _).symm.trans h33p
 refine nt (qs (qr (oN 2 [(4, vi y32.1)] [] ?_)))
 refine oe (nt (qe ?_))
 obtain rfl := sI h33
 exact re [.int .i64 y32.1]

theorem c_laws_heldOffice {W : World} {x0 : Office} {b0 : AC × AC × AC × AC × AC × AC} {x1 : Int} {r : Int} (h : laws_heldOffice x0 x1 = some r) (hv0_0 : SlView W x0.Case.Book.Rules b0.1.1 b0.1.2) (hv0_1 : SlView W x0.Case.Store.Facts b0.2.1.1 b0.2.1.2) (hv0_2 : SlView W x0.Case.Series.Points b0.2.2.1.1 b0.2.2.1.2) (hv0_3 : SlView W x0.Case.Member.Spells b0.2.2.2.1.1 b0.2.2.2.1.2) (hv0_4 : SlView W x0.Case.Member.Events b0.2.2.2.2.1.1 b0.2.2.2.2.1.2) (hv0_5 : SlView W x0.Paid b0.2.2.2.2.2.1 b0.2.2.2.2.2.2) :
    Gives0 Tryz.prog 27 #[vOffice x0 b0, .int .i64 x1] W (.int .i64 r) := by
 unfold laws_heldOffice at h
 refine en Tryz.func27 Tryz.ntmps27 ?_
 refine qs (qr (oB 2 [(2, .p 0 0)] [1] [(57, (eOffice x0 b0))] ?_))
 refine oe (nt (qs (qr (oN 3 [(7, vi x1), (6, .v (vCase x0.Case (b0.1, b0.2.1, b0.2.2.1, b0.2.2.2.1, b0.2.2.2.2.1)))] [2] ?_))))
 obtain ⟨t21, h22, h23⟩ := bS h
 refine k0 (fun γ w hs => c_laws_heldCase (b0 := (b0.1, b0.2.1, b0.2.2.1, b0.2.2.2.1, b0.2.2.2.2.1)) h22 (hv0_0.kept hs.kept) (hv0_1.kept hs.kept) (hv0_2.kept hs.kept) (hv0_3.kept hs.kept) (hv0_4.kept hs.kept)) ?_
 refine oN 1 [(1, vi t21)] [2] ?_
 refine oe (nt (qs (qs (qr (oN 2 [(10, vb (decide (t21 < 0)))] [1, 2] ?_)))))
 refine oe (nt (cC h23 (fun h26 => ?_) (fun h27 => ?_)))
 · refine qs (qr (oN 1 [(4, vi (-1))] [] ?_))
   refine oe (nt (qe (nr ?_)))
   obtain rfl := sI h26
   exact re [.int .i64 (-1)]
 refine qk (nt (qs (qr (oN 3 [(13, vi t21), (12, .v (.slice b0.2.2.2.2.2.1 x0.Paid.length b0.2.2.2.2.2.2))] [] ?_))))
 obtain ⟨t28, h29, h30⟩ := bS h27
 refine k0 (fun γ w hs => c_laws_heldIntS h29 (hv0_5.kept hs.kept)) ?_
 refine oN 1 [(1, vi t28)] [] ?_
 refine oe (nt (qs (qs (qr (oN 2 [(16, vb (decide (t28 < 0)))] [1] ?_)))))
 refine oe (nt (cC h30 (fun h33 => ?_) (fun h34 => ?_)))
 · refine qs (qr (oN 1 [(4, vi (-1))] [] ?_))
   refine oe (nt (qe (nr ?_)))
   obtain rfl := sI h33
   exact re [.int .i64 (-1)]
 refine qk (nt (qs (qr (oN 2 [(4, vi t28)] [] ?_))))
 refine oe (nt (qe ?_))
 obtain rfl := sI h34
 exact re [.int .i64 t28]

theorem c_laws_FnExactPayMonth {W : World} {x0 : Office} {b0 : AC × AC × AC × AC × AC × AC} {r : Bool} (h : laws_FnExactPayMonth x0 = some r) (hv0_0 : SlView W x0.Case.Book.Rules b0.1.1 b0.1.2) (hv0_1 : SlView W x0.Case.Store.Facts b0.2.1.1 b0.2.1.2) (hv0_2 : SlView W x0.Case.Series.Points b0.2.2.1.1 b0.2.2.1.2) (hv0_3 : SlView W x0.Case.Member.Spells b0.2.2.2.1.1 b0.2.2.2.1.2) (hv0_4 : SlView W x0.Case.Member.Events b0.2.2.2.2.1.1 b0.2.2.2.2.1.2) (hv0_5 : SlView W x0.Paid b0.2.2.2.2.2.1 b0.2.2.2.2.2.2) :
    Gives0 Tryz.prog 5 #[vOffice x0 b0] W (.bool r) := by
 unfold laws_FnExactPayMonth at h
 refine en Tryz.func5 Tryz.ntmps5 ?_
 refine qs (qr (oB 2 [(1, .p 0 0)] [] [(73, (eOffice x0 b0))] ?_))
 refine oe (nt (qs (qr (oN 1 [(3, vi 1048576)] [1] ?_))))
 refine oe (nt (qs (qr (oN 2 [(18, vi 1048576), (17, .v (vOffice x0 b0))] [1] ?_))))
 obtain ⟨t21, h22, h23⟩ := bS h
 refine k0 (fun γ w hs => c_laws_szOffice (b0 := b0) h22 (hv0_0.kept hs.kept) (hv0_1.kept hs.kept) (hv0_2.kept hs.kept) (hv0_3.kept hs.kept) (hv0_4.kept hs.kept) (hv0_5.kept hs.kept)) ?_
 refine oN 1 [(3, vi t21)] [1] ?_
 refine oe (nt (qs (qs (qr (oN 2 [(21, vb (decide (t21 < 0)))] [1] ?_)))))
 refine oe (nt (cC h23 (fun h26 => ?_) (fun h27 => ?_)))
 · refine qs (qr (oN 1 [(2, vb true)] [] ?_))
   refine oe (nt (qe (nr ?_)))
   obtain rfl := sI h26
   exact re [.bool true]
 refine qk (nt (qs (qr (oN 1 [(23, .v (vOffice x0 b0))] [1] ?_))))
 obtain ⟨t28, h29, h30⟩ := bS h27
 refine k1 (fun γ w hs => c_laws_toOffice (b0 := b0) h29 (hv0_0.kept hs.kept) (hv0_1.kept hs.kept) (hv0_2.kept hs.kept) (hv0_3.kept hs.kept) (hv0_4.kept hs.kept) (hv0_5.kept hs.kept)) (fun y31 => ?_)
 obtain ⟨t32, h33, h34⟩ := bS h30
 refine k1 (fun γ w hs => c_spec_PayMonth (b0 := y31) h33 (hs.view 0 rfl) (hs.view 1 rfl) (hs.view 2 rfl) (hs.view 3 rfl) (hs.view 4 rfl) (hs.view 5 rfl)) (fun y35 => ?_)
 refine oB 8 [(6, vb t32.2.2), (5, vi t32.2.1), (4, .p 1 0)] [1] [(73, (eOffice x0 b0)), (57, (eOffice t32.1 y35))] ?_
 refine oe (nt (qs (qr (oN 1 [(29, .v (vOffice x0 b0))] [6, 5, 4, 1] ?_))))
 obtain ⟨t36, h37, h38⟩ := bS h34
 refine k1 (fun γ w hs => c_laws_toOffice (b0 := b0) h37 (hv0_0.kept hs.kept) (hv0_1.kept hs.kept) (hv0_2.kept hs.kept) (hv0_3.kept hs.kept) (hv0_4.kept hs.kept) (hv0_5.kept hs.kept)) (fun y39 => ?_)
 refine oB 2 [(7, .p 2 0)] [6, 5, 4, 1] [(73, (eOffice x0 b0)), (57, (eOffice t32.1 y35)), (57, (eOffice t36 y39))] ?_
 refine oe (nt (qs (qr (oN 1 [(32, .v (vOffice t36 y39))] [7, 6, 5, 4, 1] ?_))))
 obtain ⟨t40, h41, h42⟩ := bS h38
 refine k1 (fun γ w hs => c_impl_PayMonth (b0 := y39) h41 (hs.view 0 rfl) (hs.view 1 rfl) (hs.view 2 rfl) (hs.view 3 rfl) (hs.view 4 rfl) (hs.view 5 rfl)) (fun y43 => ?_)
 refine oB 8 [(10, vb t40.2.2), (9, vi t40.2.1), (8, .p 3 0)] [7, 6, 5, 4, 1] [(73, (eOffice x0 b0)), (57, (eOffice t32.1 y35)), (57, (eOffice t36 y39)), (57, (eOffice t40.1 y43))] ?_
 refine oe (nt (qs (qs ?_)))
 obtain ⟨p44, hE45, h46⟩ := bS h42
 refine JC_cut (τ := Unit) (fun _ => [(1, .p 0 0), (4, .p 1 0), (5, vi t32.2.1), (6, vb t32.2.2), (7, .p 2 0), (8, .p 3 0), (9, vi t40.2.1), (10, vb t40.2.2), (50, vb p44)]) (fun _ => [(73, (eOffice x0 b0)), (57, (eOffice t32.1 y35)), (57, (eOffice t36 y39)), (57, (eOffice t40.1 y43))]) (fun _ => [SlRes 188 t32.1.Case.Book.Rules y35.1.1 y35.1.2, SlRes 84 t32.1.Case.Store.Facts y35.2.1.1 y35.2.1.2, SlRes 85 t32.1.Case.Series.Points y35.2.2.1.1 y35.2.2.1.2, SlRes 191 t32.1.Case.Member.Spells y35.2.2.2.1.1 y35.2.2.2.1.2, SlRes 195 t32.1.Case.Member.Events y35.2.2.2.2.1.1 y35.2.2.2.2.1.2, SlRes 3 t32.1.Paid y35.2.2.2.2.2.1 y35.2.2.2.2.2.2, SlRes 188 t36.Case.Book.Rules y39.1.1 y39.1.2, SlRes 84 t36.Case.Store.Facts y39.2.1.1 y39.2.1.2, SlRes 85 t36.Case.Series.Points y39.2.2.1.1 y39.2.2.1.2, SlRes 191 t36.Case.Member.Spells y39.2.2.2.1.1 y39.2.2.2.1.2, SlRes 195 t36.Case.Member.Events y39.2.2.2.2.1.1 y39.2.2.2.2.1.2, SlRes 3 t36.Paid y39.2.2.2.2.2.1 y39.2.2.2.2.2.2, SlRes 188 t40.1.Case.Book.Rules y43.1.1 y43.1.2, SlRes 84 t40.1.Case.Store.Facts y43.2.1.1 y43.2.1.2, SlRes 85 t40.1.Case.Series.Points y43.2.2.1.1 y43.2.2.1.2, SlRes 191 t40.1.Case.Member.Spells y43.2.2.2.1.1 y43.2.2.2.1.2, SlRes 195 t40.1.Case.Member.Events y43.2.2.2.2.1.1 y43.2.2.2.2.1.2, SlRes 3 t40.1.Paid y43.2.2.2.2.2.1 y43.2.2.2.2.2.2]) ?_ (fun _ => ?_)
 · refine qr (oN 2 [(38, .v (vOffice t32.1 y35)), (37, .v (vOffice t40.1 y43))] [10, 9, 8, 7, 6, 5, 4, 1] ?_)
   obtain ⟨t47, h48, h49⟩ := bS hE45
   refine k0 (fun γ w hs => c_laws_eqOffice (b0 := y43) (b1 := y35) h48 (hs.view 0 rfl) (hs.view 1 rfl) (hs.view 2 rfl) (hs.view 3 rfl) (hs.view 4 rfl) (hs.view 5 rfl) (hs.view 12 rfl) (hs.view 13 rfl) (hs.view 14 rfl) (hs.view 15 rfl) (hs.view 16 rfl) (hs.view 17 rfl)) ?_
   refine oN 2 [(41, vb (!t47))] [10, 9, 8, 7, 6, 5, 4, 1] ?_
   refine oS 41 h49 (fun h52 => ?_) (fun h53 => ?_)
   · refine oN 9 [(50, vb true)] [10, 9, 8, 7, 6, 5, 4, 1] ?_
     refine oe ?_
     obtain rfl := sI h52
     exact mt () [1, 4, 5, 6, 7, 8, 9, 10, 50] [12, 12, 12, 12, 12, 12, 6, 6, 6, 6, 6, 6, 0, 0, 0, 0, 0, 0] 4
   refine oN 5 [(46, vb (t40.2.1 != t32.2.1))] [10, 9, 8, 7, 6, 5, 4, 1] ?_
   refine oS 46 h53 (fun h55 => ?_) (fun h56 => ?_)
   · refine oN 4 [(50, vb true)] [10, 9, 8, 7, 6, 5, 4, 1] ?_
     refine oe ?_
     obtain rfl := sI h55
     exact mt () [1, 4, 5, 6, 7, 8, 9, 10, 50] [12, 12, 12, 12, 12, 12, 6, 6, 6, 6, 6, 6, 0, 0, 0, 0, 0, 0] 4
   refine oN 4 [(50, vb (!(t40.2.2 == t32.2.2)))] [10, 9, 8, 7, 6, 5, 4, 1] ?_
   refine oe ?_
   obtain rfl := sI h56
   exact mt () [1, 4, 5, 6, 7, 8, 9, 10, 50] [12, 12, 12, 12, 12, 12, 6, 6, 6, 6, 6, 6, 0, 0, 0, 0, 0, 0] 4
 refine nt (cC h46 (fun h58 => ?_) (fun h59 => ?_))
 · refine qs (qr (oN 1 [(2, vb false)] [] ?_))
   refine oe (nt (qe (nr ?_)))
   obtain rfl := sI h58
   exact re [.bool false]
 refine qk (nt (qs (qs ?_)))
 obtain ⟨t60, h61, h62⟩ := bS h59
 obtain ⟨t64, h65, h66⟩ := bS h62
 refine JC_cut (τ := Unit) (fun _ => [(55, vb (!t64)), (1, .p 0 0), (4, .p 1 0), (5, vi t32.2.1), (6, vb t32.2.2), (7, .p 2 0), (8, .p 3 0), (9, vi t40.2.1), (10, vb t40.2.2)]) (fun _ => [(73, (eOffice x0 b0)), (57, (eOffice t32.1 y35)), (57, (eOffice t36 y39)), (57, (eOffice t40.1 y43))]) (fun _ => [SlRes 188 t32.1.Case.Book.Rules y35.1.1 y35.1.2, SlRes 84 t32.1.Case.Store.Facts y35.2.1.1 y35.2.1.2, SlRes 85 t32.1.Case.Series.Points y35.2.2.1.1 y35.2.2.1.2, SlRes 191 t32.1.Case.Member.Spells y35.2.2.2.1.1 y35.2.2.2.1.2, SlRes 195 t32.1.Case.Member.Events y35.2.2.2.2.1.1 y35.2.2.2.2.1.2, SlRes 3 t32.1.Paid y35.2.2.2.2.2.1 y35.2.2.2.2.2.2, SlRes 188 t36.Case.Book.Rules y39.1.1 y39.1.2, SlRes 84 t36.Case.Store.Facts y39.2.1.1 y39.2.1.2, SlRes 85 t36.Case.Series.Points y39.2.2.1.1 y39.2.2.1.2, SlRes 191 t36.Case.Member.Spells y39.2.2.2.1.1 y39.2.2.2.1.2, SlRes 195 t36.Case.Member.Events y39.2.2.2.2.1.1 y39.2.2.2.2.1.2, SlRes 3 t36.Paid y39.2.2.2.2.2.1 y39.2.2.2.2.2.2, SlRes 188 t40.1.Case.Book.Rules y43.1.1 y43.1.2, SlRes 84 t40.1.Case.Store.Facts y43.2.1.1 y43.2.1.2, SlRes 85 t40.1.Case.Series.Points y43.2.2.1.1 y43.2.2.1.2, SlRes 191 t40.1.Case.Member.Spells y43.2.2.2.1.1 y43.2.2.2.1.2, SlRes 195 t40.1.Case.Member.Events y43.2.2.2.2.1.1 y43.2.2.2.2.1.2, SlRes 3 t40.1.Paid y43.2.2.2.2.2.1 y43.2.2.2.2.2.2]) ?_ (fun _ => ?_)
 · refine JC_weak [1, 4, 5, 6, 7, 8, 9, 10] [0, 0, 0, 0, 0, 0, 0, 0, 0, 0, 0, 0, 0, 0, 0, 0, 0, 0] 4 (sl' := [(1, .p 0 0), (4, .p 1 0), (5, vi t32.2.1), (6, vb t32.2.2), (7, .p 2 0), (8, .p 3 0), (9, vi t40.2.1), (10, vb t40.2.2)]) (bx' := [(73, (eOffice x0 b0)), (57, (eOffice t32.1 y35)), (57, (eOffice t36 y39)), (57, (eOffice t40.1 y43))]) (R' := [SlRes 188 t32.1.Case.Book.Rules y35.1.1 y35.1.2, SlRes 84 t32.1.Case.Store.Facts y35.2.1.1 y35.2.1.2, SlRes 85 t32.1.Case.Series.Points y35.2.2.1.1 y35.2.2.1.2, SlRes 191 t32.1.Case.Member.Spells y35.2.2.2.1.1 y35.2.2.2.1.2, SlRes 195 t32.1.Case.Member.Events y35.2.2.2.2.1.1 y35.2.2.2.2.1.2, SlRes 3 t32.1.Paid y35.2.2.2.2.2.1 y35.2.2.2.2.2.2, SlRes 188 t36.Case.Book.Rules y39.1.1 y39.1.2, SlRes 84 t36.Case.Store.Facts y39.2.1.1 y39.2.1.2, SlRes 85 t36.Case.Series.Points y39.2.2.1.1 y39.2.2.1.2, SlRes 191 t36.Case.Member.Spells y39.2.2.2.1.1 y39.2.2.2.1.2, SlRes 195 t36.Case.Member.Events y39.2.2.2.2.1.1 y39.2.2.2.2.1.2, SlRes 3 t36.Paid y39.2.2.2.2.2.1 y39.2.2.2.2.2.2, SlRes 188 t40.1.Case.Book.Rules y43.1.1 y43.1.2, SlRes 84 t40.1.Case.Store.Facts y43.2.1.1 y43.2.1.2, SlRes 85 t40.1.Case.Series.Points y43.2.2.1.1 y43.2.2.1.2, SlRes 191 t40.1.Case.Member.Spells y43.2.2.2.1.1 y43.2.2.2.1.2, SlRes 195 t40.1.Case.Member.Events y43.2.2.2.2.1.1 y43.2.2.2.2.1.2, SlRes 3 t40.1.Paid y43.2.2.2.2.2.1 y43.2.2.2.2.2.2]) (by kernel_rfl) (by kernel_rfl) (by kernel_rfl) (by kernel_rfl) ?_
   refine JC_heldN (ks := [0, 1, 2, 3]) (Rk := [SlRes 188 t32.1.Case.Book.Rules y35.1.1 y35.1.2, SlRes 84 t32.1.Case.Store.Facts y35.2.1.1 y35.2.1.2, SlRes 85 t32.1.Case.Series.Points y35.2.2.1.1 y35.2.2.1.2, SlRes 191 t32.1.Case.Member.Spells y35.2.2.2.1.1 y35.2.2.2.1.2, SlRes 195 t32.1.Case.Member.Events y35.2.2.2.2.1.1 y35.2.2.2.2.1.2, SlRes 3 t32.1.Paid y35.2.2.2.2.2.1 y35.2.2.2.2.2.2, SlRes 188 t36.Case.Book.Rules y39.1.1 y39.1.2, SlRes 84 t36.Case.Store.Facts y39.2.1.1 y39.2.1.2, SlRes 85 t36.Case.Series.Points y39.2.2.1.1 y39.2.2.1.2, SlRes 191 t36.Case.Member.Spells y39.2.2.2.1.1 y39.2.2.2.1.2, SlRes 195 t36.Case.Member.Events y39.2.2.2.2.1.1 y39.2.2.2.2.1.2, SlRes 3 t36.Paid y39.2.2.2.2.2.1 y39.2.2.2.2.2.2, SlRes 188 t40.1.Case.Book.Rules y43.1.1 y43.1.2, SlRes 84 t40.1.Case.Store.Facts y43.2.1.1 y43.2.1.2, SlRes 85 t40.1.Case.Series.Points y43.2.2.1.1 y43.2.2.1.2, SlRes 191 t40.1.Case.Member.Spells y43.2.2.2.1.1 y43.2.2.2.1.2, SlRes 195 t40.1.Case.Member.Events y43.2.2.2.2.1.1 y43.2.2.2.2.1.2, SlRes 3 t40.1.Paid y43.2.2.2.2.2.1 y43.2.2.2.2.2.2]) 5 (by kernel_rfl) (by kernel_rfl) ?_
   refine htq 0 (.v (vOffice t36 y39)) [0, 0, 0, 0, 0, 0, 0, 0, 0, 0, 0, 0, 0, 0, 0, 0, 0, 0] ?_
   refine htq 1 (.v (vOffice x0 b0)) [0, 0, 0, 0, 0, 0, 0, 0, 0, 0, 0, 0, 0, 0, 0, 0, 0, 0] ?_
   refine ha1 2 ?_
   refine hi (fun γ0 δ hm => ?_)
   refine g1 (fun w hs => c_laws_toOffice (b0 := b0) h61 (hv0_0.kept hs.kept) (hv0_1.kept hs.kept) (hv0_2.kept hs.kept) (hv0_3.kept hs.kept) (hv0_4.kept hs.kept) (hv0_5.kept hs.kept)) (fun y63 => ?_)
   refine gn hm [53, 51, 1, 4, 5, 6, 7, 8, 9, 10] [6, 6, 6, 6, 6, 6, 6, 6, 6, 6, 6, 6, 6, 6, 6, 6, 6, 6] ?_
   refine ha1 3 ?_
   refine hi (fun γ0 δ hm => ?_)
   refine g0 (fun w hs => c_laws_eqOffice (b0 := y39) (b1 := y63) h65 (hs.view 12 rfl) (hs.view 13 rfl) (hs.view 14 rfl) (hs.view 15 rfl) (hs.view 16 rfl) (hs.view 17 rfl) (hs.view 0 rfl) (hs.view 1 rfl) (hs.view 2 rfl) (hs.view 3 rfl) (hs.view 4 rfl) (hs.view 5 rfl)) ?_
   refine gn hm [54, 1, 4, 5, 6, 7, 8, 9, 10] [6, 6, 6, 6, 6, 6, 6, 6, 6, 6, 6, 6, 6, 6, 6, 6, 6, 6] ?_
   refine htq 4 (vb (!t64)) [6, 6, 6, 6, 6, 6, 6, 6, 6, 6, 6, 6, 6, 6, 6, 6, 6, 6] ?_
   refine hk [55, 1, 4, 5, 6, 7, 8, 9, 10] ?_
   exact hd () [55, 1, 4, 5, 6, 7, 8, 9, 10] [6, 6, 6, 6, 6, 6, 6, 6, 6, 6, 6, 6, 6, 6, 6, 6, 6, 6] 4
 refine nt (cC h66 (fun h70 => ?_) (fun h71 => ?_))
 · refine qs (qr (oN 1 [(2, vb false)] [] ?_))
   refine oe (nt (qe (nr ?_)))
   obtain rfl := sI h70
   exact re [.bool false]
 refine qk (nt (qs (qr (oN 1 [(11, vi 1)] [1, 4, 5, 6, 7, 8, 9, 10] ?_))))
 refine oe (nt (qs (qr (oN 2 [(57, vi 1), (56, .v (vOffice t36 y39))] [1, 4, 5, 6, 8, 9, 10] ?_))))
 refine JO_res (R' := [SlRes 188 t36.Case.Book.Rules y39.1.1 y39.1.2, SlRes 84 t36.Case.Store.Facts y39.2.1.1 y39.2.1.2, SlRes 85 t36.Case.Series.Points y39.2.2.1.1 y39.2.2.1.2, SlRes 191 t36.Case.Member.Spells y39.2.2.2.1.1 y39.2.2.2.1.2, SlRes 195 t36.Case.Member.Events y39.2.2.2.2.1.1 y39.2.2.2.2.1.2, SlRes 3 t36.Paid y39.2.2.2.2.2.1 y39.2.2.2.2.2.2, SlRes 188 t32.1.Case.Book.Rules y35.1.1 y35.1.2, SlRes 84 t32.1.Case.Store.Facts y35.2.1.1 y35.2.1.2, SlRes 85 t32.1.Case.Series.Points y35.2.2.1.1 y35.2.2.1.2, SlRes 191 t32.1.Case.Member.Spells y35.2.2.2.1.1 y35.2.2.2.1.2, SlRes 195 t32.1.Case.Member.Events y35.2.2.2.2.1.1 y35.2.2.2.2.1.2, SlRes 3 t32.1.Paid y35.2.2.2.2.2.1 y35.2.2.2.2.2.2, SlRes 188 t40.1.Case.Book.Rules y43.1.1 y43.1.2, SlRes 84 t40.1.Case.Store.Facts y43.2.1.1 y43.2.1.2, SlRes 85 t40.1.Case.Series.Points y43.2.2.1.1 y43.2.2.1.2, SlRes 191 t40.1.Case.Member.Spells y43.2.2.2.1.1 y43.2.2.2.1.2, SlRes 195 t40.1.Case.Member.Events y43.2.2.2.2.1.1 y43.2.2.2.2.1.2, SlRes 3 t40.1.Paid y43.2.2.2.2.2.1 y43.2.2.2.2.2.2]) [6, 6, 6, 6, 6, 6, 0, 0, 0, 0, 0, 0, 0, 0, 0, 0, 0, 0] (by kernel_rfl) ?_
 obtain ⟨t72, h73, h74⟩ := bS h71
 obtain ⟨u76, hu77, h78⟩ := bS h74
 have hl79 := (sameLen_some hu77).symm
 obtain ⟨u80, hu81, h82⟩ := bS h78
 have hl83 := (sameLen_some hu81).symm
 obtain ⟨u84, hu85, h86⟩ := bS h82
 have hl87 := (sameLen_some hu85).symm
 obtain ⟨u88, hu89, h90⟩ := bS h86
 have hl91 := (sameLen_some hu89).symm
 obtain ⟨u92, hu93, h94⟩ := bS h90
 have hl95 := (sameLen_some hu93).symm
 obtain ⟨u96, hu97, h98⟩ := bS h94
 have hl99 := (sameLen_some hu97).symm
 refine JO_callM rfl (by kernel_rfl) (f := 25) (args := #[vOffice t36 y39, .int .i64 1]) (by kernel_rfl) (x := .int .i64 t72.1) (Rin := [SlRes 188 t36.Case.Book.Rules y39.1.1 y39.1.2, SlRes 84 t36.Case.Store.Facts y39.2.1.1 y39.2.1.2, SlRes 85 t36.Case.Series.Points y39.2.2.1.1 y39.2.2.1.2, SlRes 191 t36.Case.Member.Spells y39.2.2.2.1.1 y39.2.2.2.1.2, SlRes 195 t36.Case.Member.Events y39.2.2.2.2.1.1 y39.2.2.2.2.1.2, SlRes 3 t36.Paid y39.2.2.2.2.2.1 y39.2.2.2.2.2.2]) (Rout := [SlRes 188 t72.2.1 y39.1.1 y39.1.2, SlRes 84 t72.2.2.1 y39.2.1.1 y39.2.1.2, SlRes 85 t72.2.2.2.1 y39.2.2.1.1 y39.2.2.1.2, SlRes 191 t72.2.2.2.2.1 y39.2.2.2.1.1 y39.2.2.2.1.2, SlRes 195 t72.2.2.2.2.2.1 y39.2.2.2.2.1.1 y39.2.2.2.2.1.2, SlRes 3 t72.2.2.2.2.2.2 y39.2.2.2.2.2.1 y39.2.2.2.2.2.2]) (Rr := [SlRes 188 t32.1.Case.Book.Rules y35.1.1 y35.1.2, SlRes 84 t32.1.Case.Store.Facts y35.2.1.1 y35.2.1.2, SlRes 85 t32.1.Case.Series.Points y35.2.2.1.1 y35.2.2.1.2, SlRes 191 t32.1.Case.Member.Spells y35.2.2.2.1.1 y35.2.2.2.1.2, SlRes 195 t32.1.Case.Member.Events y35.2.2.2.2.1.1 y35.2.2.2.2.1.2, SlRes 3 t32.1.Paid y35.2.2.2.2.2.1 y35.2.2.2.2.2.2, SlRes 188 t40.1.Case.Book.Rules y43.1.1 y43.1.2, SlRes 84 t40.1.Case.Store.Facts y43.2.1.1 y43.2.1.2, SlRes 85 t40.1.Case.Series.Points y43.2.2.1.1 y43.2.2.1.2, SlRes 191 t40.1.Case.Member.Spells y43.2.2.2.1.1 y43.2.2.2.1.2, SlRes 195 t40.1.Case.Member.Events y43.2.2.2.2.1.1 y43.2.2.2.2.1.2, SlRes 3 t40.1.Paid y43.2.2.2.2.2.1 y43.2.2.2.2.2.2]) rfl (fun w => (by have vv := c_laws_markOffice (e0_0 := 188) (a0_0 := y39.1.1) (c0_0 := y39.1.2) (e0_1 := 84) (a0_1 := y39.2.1.1) (c0_1 := y39.2.1.2) (e0_2 := 85) (a0_2 := y39.2.2.1.1) (c0_2 := y39.2.2.1.2) (e0_3 := 191) (a0_3 := y39.2.2.2.1.1) (c0_3 := y39.2.2.2.1.2) (e0_4 := 195) (a0_4 := y39.2.2.2.2.1.1) (c0_4 := y39.2.2.2.2.1.2) (e0_5 := 3) (a0_5 := y39.2.2.2.2.2.1) (c0_5 := y39.2.2.2.2.2.2) (W := w) h73; exact vv)) (sl' := [(58, vi t72.1), (57, vi 1), (56, .v (vOffice t36 y39)), (1, .p 0 0), (4, .p 1 0), (5, vi t32.2.1), (6, vb t32.2.2), (8, .p 3 0), (9, vi t40.2.1), (10, vb t40.2.2)]) (by kernel_rfl) ?_
 refine JO_eqE (sl' := [(58, vi t72.1), (57, vi 1), (56, .v (vOffice (Office.mk (Case.mk (Book.mk t72.2.1) (Store.mk t72.2.2.1) (Series.mk t72.2.2.2.1) (Member.mk t36.Case.Member.Birth t36.Case.Member.Joined t72.2.2.2.2.1 t72.2.2.2.2.2.1)) t36.Start t72.2.2.2.2.2.2) y39)), (1, .p 0 0), (4, .p 1 0), (5, vi t32.2.1), (6, vb t32.2.2), (8, .p 3 0), (9, vi t40.2.1), (10, vb t40.2.2)]) (bx' := [(73, (eOffice x0 b0)), (57, (eOffice t32.1 y35)), (57, (eOffice (Office.mk (Case.mk (Book.mk t72.2.1) (Store.mk t72.2.2.1) (Series.mk t72.2.2.2.1) (Member.mk t36.Case.Member.Birth t36.Case.Member.Joined t72.2.2.2.2.1 t72.2.2.2.2.2.1)) t36.Start t72.2.2.2.2.2.2) y39)), (57, (eOffice t40.1 y43))]) (by simp only [eOffice, vOffice, hl79, hl83, hl87, hl91, hl95, hl99]) (by simp only [eOffice, vOffice, hl79, hl83, hl87, hl91, hl95, hl99]) ?_
 refine oN 1 [(11, vi t72.1)] [1, 4, 5, 6, 8, 9, 10] ?_
 refine oe (nt (qs (qs ?_)))
 obtain ⟨p100, hE101, h102⟩ := bS h98
 refine JC_cut (τ := Unit) (fun _ => [(1, .p 0 0), (4, .p 1 0), (5, vi t32.2.1), (6, vb t32.2.2), (8, .p 3 0), (76, vb p100)]) (fun _ => [(73, (eOffice x0 b0)), (57, (eOffice t32.1 y35)), (57, (eOffice (Office.mk (Case.mk (Book.mk t72.2.1) (Store.mk t72.2.2.1) (Series.mk t72.2.2.2.1) (Member.mk t36.Case.Member.Birth t36.Case.Member.Joined t72.2.2.2.2.1 t72.2.2.2.2.2.1)) t36.Start t72.2.2.2.2.2.2) y39)), (57, (eOffice t40.1 y43))]) (fun _ => [SlRes 188 t32.1.Case.Book.Rules y35.1.1 y35.1.2, SlRes 84 t32.1.Case.Store.Facts y35.2.1.1 y35.2.1.2, SlRes 85 t32.1.Case.Series.Points y35.2.2.1.1 y35.2.2.1.2, SlRes 191 t32.1.Case.Member.Spells y35.2.2.2.1.1 y35.2.2.2.1.2, SlRes 195 t32.1.Case.Member.Events y35.2.2.2.2.1.1 y35.2.2.2.2.1.2, SlRes 3 t32.1.Paid y35.2.2.2.2.2.1 y35.2.2.2.2.2.2, SlRes 188 t72.2.1 y39.1.1 y39.1.2, SlRes 84 t72.2.2.1 y39.2.1.1 y39.2.1.2, SlRes 85 t72.2.2.2.1 y39.2.2.1.1 y39.2.2.1.2, SlRes 191 t72.2.2.2.2.1 y39.2.2.2.1.1 y39.2.2.2.1.2, SlRes 195 t72.2.2.2.2.2.1 y39.2.2.2.2.1.1 y39.2.2.2.2.1.2, SlRes 3 t72.2.2.2.2.2.2 y39.2.2.2.2.2.1 y39.2.2.2.2.2.2, SlRes 188 t40.1.Case.Book.Rules y43.1.1 y43.1.2, SlRes 84 t40.1.Case.Store.Facts y43.2.1.1 y43.2.1.2, SlRes 85 t40.1.Case.Series.Points y43.2.2.1.1 y43.2.2.1.2, SlRes 191 t40.1.Case.Member.Spells y43.2.2.2.1.1 y43.2.2.2.1.2, SlRes 195 t40.1.Case.Member.Events y43.2.2.2.2.1.1 y43.2.2.2.2.1.2, SlRes 3 t40.1.Paid y43.2.2.2.2.2.1 y43.2.2.2.2.2.2]) ?_ (fun _ => ?_)
 · refine qr (oN 3 [(61, vb (decide (t72.1 < 0)))] [1, 4, 5, 6, 8, 9, 10] ?_)
   refine oS 61 hE101 (fun h104 => ?_) (fun h105 => ?_)
   · refine oN 15 [(76, vb true)] [1, 4, 5, 6, 8] ?_
     refine oe ?_
     obtain rfl := sI h104
     exact mt () [1, 4, 5, 6, 8, 76] [6, 6, 6, 6, 6, 6, 0, 0, 0, 0, 0, 0, 0, 0, 0, 0, 0, 0] 4
   refine oN 2 [(63, .v (vOffice t32.1 y35)), (62, .v (vOffice t40.1 y43))] [61, 1, 4, 5, 6, 8, 9, 10] ?_
   obtain ⟨t106, h107, h108⟩ := bS h105
   refine k0 (fun γ w hs => c_laws_eqOffice (b0 := y43) (b1 := y35) h107 (hs.view 12 rfl) (hs.view 13 rfl) (hs.view 14 rfl) (hs.view 15 rfl) (hs.view 16 rfl) (hs.view 17 rfl) (hs.view 6 rfl) (hs.view 7 rfl) (hs.view 8 rfl) (hs.view 9 rfl) (hs.view 10 rfl) (hs.view 11 rfl)) ?_
   refine oN 3 [(67, vb (!t106))] [1, 4, 5, 6, 8, 9, 10] ?_
   refine oS 67 h108 (fun h111 => ?_) (fun h112 => ?_)
   · refine oN 9 [(76, vb true)] [1, 4, 5, 6, 8] ?_
     refine oe ?_
     obtain rfl := sI h111
     exact mt () [1, 4, 5, 6, 8, 76] [6, 6, 6, 6, 6, 6, 0, 0, 0, 0, 0, 0, 0, 0, 0, 0, 0, 0] 4
   refine oN 5 [(72, vb (t40.2.1 != t32.2.1))] [1, 4, 5, 6, 8, 10] ?_
   refine oS 72 h112 (fun h114 => ?_) (fun h115 => ?_)
   · refine oN 4 [(76, vb true)] [1, 4, 5, 6, 8] ?_
     refine oe ?_
     obtain rfl := sI h114
     exact mt () [1, 4, 5, 6, 8, 76] [6, 6, 6, 6, 6, 6, 0, 0, 0, 0, 0, 0, 0, 0, 0, 0, 0, 0] 4
   refine oN 4 [(76, vb (!(t40.2.2 == t32.2.2)))] [1, 4, 5, 6, 8] ?_
   refine oe ?_
   obtain rfl := sI h115
   exact mt () [1, 4, 5, 6, 8, 76] [6, 6, 6, 6, 6, 6, 0, 0, 0, 0, 0, 0, 0, 0, 0, 0, 0, 0] 4
 refine nt (cC h102 (fun h117 => ?_) (fun h118 => ?_))
 · refine qs (qr (oN 1 [(2, vb false)] [] ?_))
   refine oe (nt (qe (nr ?_)))
   obtain rfl := sI h117
   exact re [.bool false]
 refine qk (nt (qs (qr (oN 1 [(12, vi 1)] [1, 4, 5, 6, 8] ?_))))
 refine oe (nt (qs (qr (oN 2 [(78, vi 1), (77, .v (vOffice t40.1 y43))] [1, 4, 5, 6, 8] ?_))))
 refine JO_res (R' := [SlRes 188 t40.1.Case.Book.Rules y43.1.1 y43.1.2, SlRes 84 t40.1.Case.Store.Facts y43.2.1.1 y43.2.1.2, SlRes 85 t40.1.Case.Series.Points y43.2.2.1.1 y43.2.2.1.2, SlRes 191 t40.1.Case.Member.Spells y43.2.2.2.1.1 y43.2.2.2.1.2, SlRes 195 t40.1.Case.Member.Events y43.2.2.2.2.1.1 y43.2.2.2.2.1.2, SlRes 3 t40.1.Paid y43.2.2.2.2.2.1 y43.2.2.2.2.2.2, SlRes 188 t32.1.Case.Book.Rules y35.1.1 y35.1.2, SlRes 84 t32.1.Case.Store.Facts y35.2.1.1 y35.2.1.2, SlRes 85 t32.1.Case.Series.Points y35.2.2.1.1 y35.2.2.1.2, SlRes 191 t32.1.Case.Member.Spells y35.2.2.2.1.1 y35.2.2.2.1.2, SlRes 195 t32.1.Case.Member.Events y35.2.2.2.2.1.1 y35.2.2.2.2.1.2, SlRes 3 t32.1.Paid y35.2.2.2.2.2.1 y35.2.2.2.2.2.2, SlRes 188 t72.2.1 y39.1.1 y39.1.2, SlRes 84 t72.2.2.1 y39.2.1.1 y39.2.1.2, SlRes 85 t72.2.2.2.1 y39.2.2.1.1 y39.2.2.1.2, SlRes 191 t72.2.2.2.2.1 y39.2.2.2.1.1 y39.2.2.2.1.2, SlRes 195 t72.2.2.2.2.2.1 y39.2.2.2.2.1.1 y39.2.2.2.2.1.2, SlRes 3 t72.2.2.2.2.2.2 y39.2.2.2.2.2.1 y39.2.2.2.2.2.2]) [12, 12, 12, 12, 12, 12, 0, 0, 0, 0, 0, 0, 0, 0, 0, 0, 0, 0] (by kernel_rfl) ?_
 obtain ⟨t119, h120, h121⟩ := bS h118
 obtain ⟨u123, hu124, h125⟩ := bS h121
 have hl126 := (sameLen_some hu124).symm
 obtain ⟨u127, hu128, h129⟩ := bS h125
 have hl130 := (sameLen_some hu128).symm
 obtain ⟨u131, hu132, h133⟩ := bS h129
 have hl134 := (sameLen_some hu132).symm
 obtain ⟨u135, hu136, h137⟩ := bS h133
 have hl138 := (sameLen_some hu136).symm
 obtain ⟨u139, hu140, h141⟩ := bS h137
 have hl142 := (sameLen_some hu140).symm
 obtain ⟨u143, hu144, h145⟩ := bS h141
 have hl146 := (sameLen_some hu144).symm
 refine JO_callM rfl (by kernel_rfl) (f := 25) (args := #[vOffice t40.1 y43, .int .i64 1]) (by kernel_rfl) (x := .int .i64 t119.1) (Rin := [SlRes 188 t40.1.Case.Book.Rules y43.1.1 y43.1.2, SlRes 84 t40.1.Case.Store.Facts y43.2.1.1 y43.2.1.2, SlRes 85 t40.1.Case.Series.Points y43.2.2.1.1 y43.2.2.1.2, SlRes 191 t40.1.Case.Member.Spells y43.2.2.2.1.1 y43.2.2.2.1.2, SlRes 195 t40.1.Case.Member.Events y43.2.2.2.2.1.1 y43.2.2.2.2.1.2, SlRes 3 t40.1.Paid y43.2.2.2.2.2.1 y43.2.2.2.2.2.2]) (Rout := [SlRes 188 t119.2.1 y43.1.1 y43.1.2, SlRes 84 t119.2.2.1 y43.2.1.1 y43.2.1.2, SlRes 85 t119.2.2.2.1 y43.2.2.1.1 y43.2.2.1.2, SlRes 191 t119.2.2.2.2.1 y43.2.2.2.1.1 y43.2.2.2.1.2, SlRes 195 t119.2.2.2.2.2.1 y43.2.2.2.2.1.1 y43.2.2.2.2.1.2, SlRes 3 t119.2.2.2.2.2.2 y43.2.2.2.2.2.1 y43.2.2.2.2.2.2]) (Rr := [SlRes 188 t32.1.Case.Book.Rules y35.1.1 y35.1.2, SlRes 84 t32.1.Case.Store.Facts y35.2.1.1 y35.2.1.2, SlRes 85 t32.1.Case.Series.Points y35.2.2.1.1 y35.2.2.1.2, SlRes 191 t32.1.Case.Member.Spells y35.2.2.2.1.1 y35.2.2.2.1.2, SlRes 195 t32.1.Case.Member.Events y35.2.2.2.2.1.1 y35.2.2.2.2.1.2, SlRes 3 t32.1.Paid y35.2.2.2.2.2.1 y35.2.2.2.2.2.2, SlRes 188 t72.2.1 y39.1.1 y39.1.2, SlRes 84 t72.2.2.1 y39.2.1.1 y39.2.1.2, SlRes 85 t72.2.2.2.1 y39.2.2.1.1 y39.2.2.1.2, SlRes 191 t72.2.2.2.2.1 y39.2.2.2.1.1 y39.2.2.2.1.2, SlRes 195 t72.2.2.2.2.2.1 y39.2.2.2.2.1.1 y39.2.2.2.2.1.2, SlRes 3 t72.2.2.2.2.2.2 y39.2.2.2.2.2.1 y39.2.2.2.2.2.2]) rfl (fun w => (by have vv := c_laws_markOffice (e0_0 := 188) (a0_0 := y43.1.1) (c0_0 := y43.1.2) (e0_1 := 84) (a0_1 := y43.2.1.1) (c0_1 := y43.2.1.2) (e0_2 := 85) (a0_2 := y43.2.2.1.1) (c0_2 := y43.2.2.1.2) (e0_3 := 191) (a0_3 := y43.2.2.2.1.1) (c0_3 := y43.2.2.2.1.2) (e0_4 := 195) (a0_4 := y43.2.2.2.2.1.1) (c0_4 := y43.2.2.2.2.1.2) (e0_5 := 3) (a0_5 := y43.2.2.2.2.2.1) (c0_5 := y43.2.2.2.2.2.2) (W := w) h120; exact vv)) (sl' := [(79, vi t119.1), (78, vi 1), (77, .v (vOffice t40.1 y43)), (1, .p 0 0), (4, .p 1 0), (5, vi t32.2.1), (6, vb t32.2.2), (8, .p 3 0)]) (by kernel_rfl) ?_
 refine JO_eqE (sl' := [(79, vi t119.1), (78, vi 1), (77, .v (vOffice (Office.mk (Case.mk (Book.mk t119.2.1) (Store.mk t119.2.2.1) (Series.mk t119.2.2.2.1) (Member.mk t40.1.Case.Member.Birth t40.1.Case.Member.Joined t119.2.2.2.2.1 t119.2.2.2.2.2.1)) t40.1.Start t119.2.2.2.2.2.2) y43)), (1, .p 0 0), (4, .p 1 0), (5, vi t32.2.1), (6, vb t32.2.2), (8, .p 3 0)]) (bx' := [(73, (eOffice x0 b0)), (57, (eOffice t32.1 y35)), (57, (eOffice (Office.mk (Case.mk (Book.mk t72.2.1) (Store.mk t72.2.2.1) (Series.mk t72.2.2.2.1) (Member.mk t36.Case.Member.Birth t36.Case.Member.Joined t72.2.2.2.2.1 t72.2.2.2.2.2.1)) t36.Start t72.2.2.2.2.2.2) y39)), (57, (eOffice (Office.mk (Case.mk (Book.mk t119.2.1) (Store.mk t119.2.2.1) (Series.mk t119.2.2.2.1) (Member.mk t40.1.Case.Member.Birth t40.1.Case.Member.Joined t119.2.2.2.2.1 t119.2.2.2.2.2.1)) t40.1.Start t119.2.2.2.2.2.2) y43))]) (by simp only [eOffice, vOffice, hl126, hl130, hl134, hl138, hl142, hl146]) (by simp only [eOffice, vOffice, hl126, hl130, hl134, hl138, hl142, hl146]) ?_
 refine oN 1 [(12, vi t119.1)] [1, 4, 5, 6, 8] ?_
 refine oe (nt (qs (qr (oN 1 [(13, vi 1)] [12, 1, 4, 5, 6, 8] ?_))))
 refine oe (nt (qs (qr (oN 2 [(81, vi 1), (80, .v (vOffice (Office.mk (Case.mk (Book.mk t119.2.1) (Store.mk t119.2.2.1) (Series.mk t119.2.2.2.1) (Member.mk t40.1.Case.Member.Birth t40.1.Case.Member.Joined t119.2.2.2.2.1 t119.2.2.2.2.2.1)) t40.1.Start t119.2.2.2.2.2.2) y43))] [12, 1, 4, 5, 6, 8] ?_))))
 obtain ⟨t147, h148, h149⟩ := bS h145
 refine k0 (fun γ w hs => c_laws_heldOffice (b0 := y43) h148 (hs.view 0 rfl) (hs.view 1 rfl) (hs.view 2 rfl) (hs.view 3 rfl) (hs.view 4 rfl) (hs.view 5 rfl)) ?_
 refine oN 1 [(13, vi t147)] [12, 1, 4, 5, 6, 8] ?_
 refine oe (nt (qs (qs (qr (oN 2 [(84, vb (decide (t147 < 0)))] [13, 12, 1, 4, 5, 6, 8] ?_)))))
 refine oe (nt (cC h149 (fun h152 => ?_) (fun h153 => ?_)))
 · refine qs (qr (oN 1 [(2, vb false)] [] ?_))
   refine oe (nt (qe (nr ?_)))
   obtain rfl := sI h152
   exact re [.bool false]
 refine qk (nt (qs (qs (qr (oN 3 [(87, vb (t147 != t119.1))] [12, 1, 4, 5, 6, 8] ?_)))))
 refine oe (nt (cC h153 (fun h155 => ?_) (fun h156 => ?_)))
 · refine qs (qr (oN 1 [(2, vb false)] [] ?_))
   refine oe (nt (qe (nr ?_)))
   obtain rfl := sI h155
   exact re [.bool false]
 refine qk (nt (qs (qr (oN 1 [(89, .v (vOffice x0 b0))] [12, 4, 5, 6, 8] ?_))))
 obtain ⟨t157, h158, h159⟩ := bS h156
 refine k1 (fun γ w hs => c_laws_toOffice (b0 := b0) h158 (hv0_0.kept hs.kept) (hv0_1.kept hs.kept) (hv0_2.kept hs.kept) (hv0_3.kept hs.kept) (hv0_4.kept hs.kept) (hv0_5.kept hs.kept)) (fun y160 => ?_)
 obtain ⟨t161, h162, h163⟩ := bS h159
 refine k1 (fun γ w hs => c_impl_PayMonth (b0 := y160) h162 (hs.view 0 rfl) (hs.view 1 rfl) (hs.view 2 rfl) (hs.view 3 rfl) (hs.view 4 rfl) (hs.view 5 rfl)) (fun y164 => ?_)
 refine oB 8 [(16, vb t161.2.2), (15, vi t161.2.1), (14, .p 4 0)] [12, 4, 5, 6, 8] [(73, (eOffice x0 b0)), (57, (eOffice t32.1 y35)), (57, (eOffice (Office.mk (Case.mk (Book.mk t72.2.1) (Store.mk t72.2.2.1) (Series.mk t72.2.2.2.1) (Member.mk t36.Case.Member.Birth t36.Case.Member.Joined t72.2.2.2.2.1 t72.2.2.2.2.2.1)) t36.Start t72.2.2.2.2.2.2) y39)), (57, (eOffice (Office.mk (Case.mk (Book.mk t119.2.1) (Store.mk t119.2.2.1) (Series.mk t119.2.2.2.1) (Member.mk t40.1.Case.Member.Birth t40.1.Case.Member.Joined t119.2.2.2.2.1 t119.2.2.2.2.2.1)) t40.1.Start t119.2.2.2.2.2.2) y43)), (57, (eOffice t161.1 y164))] ?_
 refine oe (nt (qs (qs ?_)))
 obtain ⟨p165, hE166, h167⟩ := bS h163
 refine JC_cut (τ := Unit) (fun _ => [(8, .p 3 0), (12, vi t119.1), (108, vb p165)]) (fun _ => [(73, (eOffice x0 b0)), (57, (eOffice t32.1 y35)), (57, (eOffice (Office.mk (Case.mk (Book.mk t72.2.1) (Store.mk t72.2.2.1) (Series.mk t72.2.2.2.1) (Member.mk t36.Case.Member.Birth t36.Case.Member.Joined t72.2.2.2.2.1 t72.2.2.2.2.2.1)) t36.Start t72.2.2.2.2.2.2) y39)), (57, (eOffice (Office.mk (Case.mk (Book.mk t119.2.1) (Store.mk t119.2.2.1) (Series.mk t119.2.2.2.1) (Member.mk t40.1.Case.Member.Birth t40.1.Case.Member.Joined t119.2.2.2.2.1 t119.2.2.2.2.2.1)) t40.1.Start t119.2.2.2.2.2.2) y43)), (57, (eOffice t161.1 y164))]) (fun _ => [SlRes 188 t32.1.Case.Book.Rules y35.1.1 y35.1.2, SlRes 84 t32.1.Case.Store.Facts y35.2.1.1 y35.2.1.2, SlRes 85 t32.1.Case.Series.Points y35.2.2.1.1 y35.2.2.1.2, SlRes 191 t32.1.Case.Member.Spells y35.2.2.2.1.1 y35.2.2.2.1.2, SlRes 195 t32.1.Case.Member.Events y35.2.2.2.2.1.1 y35.2.2.2.2.1.2, SlRes 3 t32.1.Paid y35.2.2.2.2.2.1 y35.2.2.2.2.2.2, SlRes 188 t72.2.1 y39.1.1 y39.1.2, SlRes 84 t72.2.2.1 y39.2.1.1 y39.2.1.2, SlRes 85 t72.2.2.2.1 y39.2.2.1.1 y39.2.2.1.2, SlRes 191 t72.2.2.2.2.1 y39.2.2.2.1.1 y39.2.2.2.1.2, SlRes 195 t72.2.2.2.2.2.1 y39.2.2.2.2.1.1 y39.2.2.2.2.1.2, SlRes 3 t72.2.2.2.2.2.2 y39.2.2.2.2.2.1 y39.2.2.2.2.2.2, SlRes 188 t119.2.1 y43.1.1 y43.1.2, SlRes 84 t119.2.2.1 y43.2.1.1 y43.2.1.2, SlRes 85 t119.2.2.2.1 y43.2.2.1.1 y43.2.2.1.2, SlRes 191 t119.2.2.2.2.1 y43.2.2.2.1.1 y43.2.2.2.1.2, SlRes 195 t119.2.2.2.2.2.1 y43.2.2.2.2.1.1 y43.2.2.2.2.1.2, SlRes 3 t119.2.2.2.2.2.2 y43.2.2.2.2.2.1 y43.2.2.2.2.2.2, SlRes 188 t161.1.Case.Book.Rules y164.1.1 y164.1.2, SlRes 84 t161.1.Case.Store.Facts y164.2.1.1 y164.2.1.2, SlRes 85 t161.1.Case.Series.Points y164.2.2.1.1 y164.2.2.1.2, SlRes 191 t161.1.Case.Member.Spells y164.2.2.2.1.1 y164.2.2.2.1.2, SlRes 195 t161.1.Case.Member.Events y164.2.2.2.2.1.1 y164.2.2.2.2.1.2, SlRes 3 t161.1.Paid y164.2.2.2.2.2.1 y164.2.2.2.2.2.2]) ?_ (fun _ => ?_)
 · refine qr (oN 2 [(96, .v (vOffice t32.1 y35)), (95, .v (vOffice t161.1 y164))] [16, 15, 12, 5, 6, 8] ?_)
   obtain ⟨t168, h169, h170⟩ := bS hE166
   refine k0 (fun γ w hs => c_laws_eqOffice (b0 := y164) (b1 := y35) h169 (hs.view 0 rfl) (hs.view 1 rfl) (hs.view 2 rfl) (hs.view 3 rfl) (hs.view 4 rfl) (hs.view 5 rfl) (hs.view 18 rfl) (hs.view 19 rfl) (hs.view 20 rfl) (hs.view 21 rfl) (hs.view 22 rfl) (hs.view 23 rfl)) ?_
   refine oN 2 [(99, vb (!t168))] [16, 15, 12, 5, 6, 8] ?_
   refine oS 99 h170 (fun h173 => ?_) (fun h174 => ?_)
   · refine oN 9 [(108, vb true)] [12, 8] ?_
     refine oe ?_
     obtain rfl := sI h173
     exact mt () [8, 12, 108] [18, 18, 18, 18, 18, 18, 18, 18, 18, 18, 18, 18, 12, 12, 12, 12, 12, 12, 0, 0, 0, 0, 0, 0] 5
   refine oN 5 [(104, vb (t161.2.1 != t32.2.1))] [16, 12, 6, 8] ?_
   refine oS 104 h174 (fun h176 => ?_) (fun h177 => ?_)
   · refine oN 4 [(108, vb true)] [12, 8] ?_
     refine oe ?_
     obtain rfl := sI h176
     exact mt () [8, 12, 108] [18, 18, 18, 18, 18, 18, 18, 18, 18, 18, 18, 18, 12, 12, 12, 12, 12, 12, 0, 0, 0, 0, 0, 0] 5
   refine oN 4 [(108, vb (!(t161.2.2 == t32.2.2)))] [12, 8] ?_
   refine oe ?_
   obtain rfl := sI h177
   exact mt () [8, 12, 108] [18, 18, 18, 18, 18, 18, 18, 18, 18, 18, 18, 18, 12, 12, 12, 12, 12, 12, 0, 0, 0, 0, 0, 0] 5
 refine nt (cC h167 (fun h179 => ?_) (fun h180 => ?_))
 · refine qs (qr (oN 1 [(2, vb false)] [] ?_))
   refine oe (nt (qe (nr ?_)))
   obtain rfl := sI h179
   exact re [.bool false]
 refine qk (nt (qs (qr (oN 1 [(13, vi 1)] [8, 12] ?_))))
 refine oe (nt (qs (qr (oN 2 [(110, vi 1), (109, .v (vOffice (Office.mk (Case.mk (Book.mk t119.2.1) (Store.mk t119.2.2.1) (Series.mk t119.2.2.2.1) (Member.mk t40.1.Case.Member.Birth t40.1.Case.Member.Joined t119.2.2.2.2.1 t119.2.2.2.2.2.1)) t40.1.Start t119.2.2.2.2.2.2) y43))] [12] ?_))))
 obtain ⟨t181, h182, h183⟩ := bS h180
 refine k0 (fun γ w hs => c_laws_heldOffice (b0 := y43) h182 (hs.view 12 rfl) (hs.view 13 rfl) (hs.view 14 rfl) (hs.view 15 rfl) (hs.view 16 rfl) (hs.view 17 rfl)) ?_
 refine oN 1 [(13, vi t181)] [12] ?_
 refine oe (nt (qs (qs (qr (oN 2 [(113, vb (decide (t181 < 0)))] [13, 12] ?_)))))
 refine oe (nt (cC h183 (fun h186 => ?_) (fun h187 => ?_)))
 · refine qs (qr (oN 1 [(2, vb false)] [] ?_))
   refine oe (nt (qe (nr ?_)))
   obtain rfl := sI h186
   exact re [.bool false]
 refine qk (nt (qs (qs (qr (oN 3 [(116, vb (t181 != t119.1))] [] ?_)))))
 refine oe (nt (cC h187 (fun h189 => ?_) (fun h190 => ?_)))
 · refine qs (qr (oN 1 [(2, vb false)] [] ?_))
   refine oe (nt (qe (nr ?_)))
   obtain rfl := sI h189
   exact re [.bool false]
 refine qk (nt (qs (qr (oN 1 [(2, vb true)] [] ?_))))
 refine oe (nt (qe ?_))
 obtain rfl := sI h190
 exact re [.bool true]
end Go.Pen
