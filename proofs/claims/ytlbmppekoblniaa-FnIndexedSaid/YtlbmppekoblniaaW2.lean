/-
  Each Go function does what its plain function says: written by a program of ours.
-/
import Derived.Test.YtlbmppekoblniaaW1
import Derived.Test.YtlbmppekoblniaaProg
import Derived.Test.YtlbmppekoblniaaPenK
import Derived.Test.YtlbmppekoblniaaPenJ
import Derived.Test.YtlbmppekoblniaaPenP
import Derived.Test.YtlbmppekoblniaaPenM
namespace Go.Pen
open Go.Proofs Go.RowKit
set_option linter.unusedVariables false
set_option linter.unusedSimpArgs false
set_option maxRecDepth 100000
set_option maxHeartbeats 4000000

theorem c_slices_symMergeCmpFunc_int__impl_Allocate_1 (fuel : Nat) : ∀ {W : World} {x0 : List Int} {a0_0 : Option Addr} {c0_0 : Nat} {e0_0 : TypeId} {x1 : Int} {x2 : Int} {x3 : Int} {g4_0 : Nat} {z4_0 : Int} {g4_1 : Nat} {z4_1 : List Int} {g4_2 : Nat} {z4_2 : Int} {r : (List Int)} (h : slices_symMergeCmpFunc_int__impl_Allocate_1 fuel x0 x1 x2 x3 z4_0 z4_1 z4_2 = some r) ,
    GivesMQ Try.prog (fun w => ∀ (q0 : Int) (q1 : Int) (r : Int), impl_Allocate_1 q0 q1 z4_0 z4_1 z4_2 = some r → Gives0 Try.prog 35 #[.int .i64 q0, .int .i64 q1, .pointer (some ⟨g4_0, 0, none⟩), .pointer (some ⟨g4_1, 0, none⟩), .pointer (some ⟨g4_2, 0, none⟩)] w (.int .i64 r)) 44 #[.slice a0_0 x0.length c0_0, .int .i64 x1, .int .i64 x2, .int .i64 x3, .func (.func 35) #[] #[.pointer (some ⟨g4_0, 0, none⟩), .pointer (some ⟨g4_1, 0, none⟩), .pointer (some ⟨g4_2, 0, none⟩)]] W [SlRes e0_0 x0 a0_0 c0_0] [SlRes e0_0 r a0_0 c0_0] (.tuple #[]) := by
 induction fuel with
 | zero =>
  intro W x0 a0_0 c0_0 e0_0 x1 x2 x3 g4_0 z4_0 g4_1 z4_1 g4_2 z4_2 r h
  cases (show (none : Option ((List Int))) = some r from h)
 | succ fuel ih =>
  intro W x0 a0_0 c0_0 e0_0 x1 x2 x3 g4_0 z4_0 g4_1 z4_1 g4_2 z4_2 r h
  have h : slices_symMergeCmpFunc_int__impl_Allocate_1_step (slices_symMergeCmpFunc_int__impl_Allocate_1 fuel) x0 x1 x2 x3 z4_0 z4_1 z4_2 = some r := h
  unfold slices_symMergeCmpFunc_int__impl_Allocate_1_step at h
  refine enterMQ [.v (.slice a0_0 x0.length c0_0), vi x1, vi x2, vi x3, .v (.func (.func 35) #[] #[.pointer (some ⟨g4_0, 0, none⟩), .pointer (some ⟨g4_1, 0, none⟩), .pointer (some ⟨g4_2, 0, none⟩)])] (args := [.slice a0_0 x0.length c0_0, .int .i64 x1, .int .i64 x2, .int .i64 x3, .func (.func 35) #[] #[.pointer (some ⟨g4_0, 0, none⟩), .pointer (some ⟨g4_1, 0, none⟩), .pointer (some ⟨g4_2, 0, none⟩)]]) (by kernel_rfl) (by kernel_rfl) Try.func44 rfl Try.ntmps44 (by kernel_rfl) (fun Fs hq => ?_)
  refine qs (qs (qr (oN 4 [(28, vb ((w64 (x2 - x1)) == 1))] [0, 1, 2, 3, 4] ?_)))
  refine oe (nt (cC h (fun h90 => ?_) (fun h91 => ?_)))
  · refine qs (qr (oN 2 [(10, vi x2)] [0, 1, 3, 4] ?_))
    refine oe (nt (qs (qr (oN 2 [(11, vi x3)] [10, 0, 1, 4] ?_))))
    refine oe (nt (qs ?_))
    obtain ⟨r95, hL96, h97⟩ := bS h90
    obtain ⟨k98, hk99, h97⟩ := brkS h97
    refine JC_cutP (τ := (Int) × (Unit)) (fun y => k98 y.1 = some r) (fun y103 => [(10, vi y103.1), (0, .v (.slice a0_0 x0.length c0_0)), (1, vi x1), (4, .v (.func (.func 35) #[] #[.pointer (some ⟨g4_0, 0, none⟩), .pointer (some ⟨g4_1, 0, none⟩), .pointer (some ⟨g4_2, 0, none⟩)]))]) (fun y103 => []) (fun y103 => [SlRes e0_0 x0 a0_0 c0_0]) ?_ (fun y103 h104p => ?_)
    · refine qb (lp Unit hL96 (fun s92 y93 => [(11, vi s92.1), (10, vi s92.2), (0, .v (.slice a0_0 x0.length c0_0)), (1, vi x1), (4, .v (.func (.func 35) #[] #[.pointer (some ⟨g4_0, 0, none⟩), .pointer (some ⟨g4_1, 0, none⟩), .pointer (some ⟨g4_2, 0, none⟩)]))]) (fun s92 y93 => []) (fun s92 y93 => [SlRes e0_0 x0 a0_0 c0_0]) () [11, 10, 0, 1, 4] [0] 0 (fun s92 y93 t94 h100 hd101 => ?_))
      refine qs (qs (qr (oN 3 [(33, vb (decide (s92.2 < s92.1)))] [11, 10, 0, 1, 4] ?_)))
      refine oe (nt (cC h100 (fun h144 => ?_) (fun h145 => ?_)))
      · refine qk (nt (qb (qs (qr (oN 7 [(12, vi (w64 (Int.fdiv (wu64 (w64 (s92.2 + s92.1))) 2)))] [11, 10, 0, 1, 4] ?_)))))
        refine oe (nt (qs (JC_quiet (by kernel_rfl) (by kernel_rfl) ?_)))
        refine qN 3 [(42, vi (w64 (Int.fdiv (wu64 (w64 (s92.2 + s92.1))) 2))), (41, .v (.slice a0_0 x0.length c0_0)), (40, .v (.func (.func 35) #[] #[.pointer (some ⟨g4_0, 0, none⟩), .pointer (some ⟨g4_1, 0, none⟩), .pointer (some ⟨g4_2, 0, none⟩)]))] [12, 11, 10, 0, 1, 4] ?_
        obtain ⟨x146, hx147, h148⟩ := bS h144
        refine qi 1 (fun γ w hs => (hs.view 0 rfl)) hx147 ?_
        refine ql 3 0 (.int .i64 x146) (fun γ w hs => (hs.view 0 rfl).flatq hx147) ?_
        refine qN 2 [(46, vi x1), (45, .v (.slice a0_0 x0.length c0_0))] [44, 40, 12, 11, 10, 0, 1, 4] ?_
        obtain ⟨x149, hx150, h151⟩ := bS h148
        refine qi 1 (fun γ w hs => (hs.view 0 rfl)) hx150 ?_
        refine ql 3 0 (.int .i64 x149) (fun γ w hs => (hs.view 0 rfl).flatq hx150) ?_
        obtain ⟨t152, h153, h154⟩ := bS h151
        refine q0 (fun γ w hs => hq w hs.kept _ _ _ h153) ?_
        refine qN 1 [(50, vb (decide (t152 < 0)))] [12, 11, 10, 0, 1, 4] ?_
        refine qz (nt (cC h154 (fun h157 => ?_) (fun h158 => ?_)))
        · refine qr (oN 3 [(10, vi (w64 ((w64 (Int.fdiv (wu64 (w64 (s92.2 + s92.1))) 2)) + 1)))] [11, 0, 1, 4] ?_)
          exact oe (bn (ct h157 () [11, 10, 0, 1, 4] [0] 0))
        refine qr (oN 2 [(11, vi (w64 (Int.fdiv (wu64 (w64 (s92.2 + s92.1))) 2)))] [10, 0, 1, 4] ?_)
        exact oe (bn (ct h158 () [11, 10, 0, 1, 4] [0] 0))
      refine qx (nx (nx (bh ?_)))
      have h159 := leafB hd101 h145 h97
      exact mp (s92.2, ()) h159 [10, 0, 1, 4] [0] 0
    have h104 := (congrFun hk99 _).symm.trans h104p
    refine nt (qs (qs (qr (oN 2 [(13, vi x1)] [10, 0, 4] ?_))))
    refine oe (nt ?_)
    obtain ⟨r108, hL109, h110⟩ := bS h104
    obtain ⟨k111, hk112, h110⟩ := brkS h110
    refine JC_cutP (τ := ((List Int)) × (Unit)) (fun y => k111 y.1 = some r) (fun y116 => [(0, .v (.slice a0_0 y116.1.length c0_0)), (4, .v (.func (.func 35) #[] #[.pointer (some ⟨g4_0, 0, none⟩), .pointer (some ⟨g4_1, 0, none⟩), .pointer (some ⟨g4_2, 0, none⟩)]))]) (fun y116 => []) (fun y116 => [SlRes e0_0 y116.1 a0_0 c0_0]) ?_ (fun y116 h117p => ?_)
    · refine qb (lp Unit hL109 (fun s105 y106 => [(13, vi s105.1), (10, vi y103.1), (0, .v (.slice a0_0 s105.2.length c0_0)), (4, .v (.func (.func 35) #[] #[.pointer (some ⟨g4_0, 0, none⟩), .pointer (some ⟨g4_1, 0, none⟩), .pointer (some ⟨g4_2, 0, none⟩)]))]) (fun s105 y106 => []) (fun s105 y106 => [SlRes e0_0 s105.2 a0_0 c0_0]) () [13, 10, 0, 4] [0] 0 (fun s105 y106 t107 h113 hd114 => ?_))
      refine qs (qs (qr (oN 4 [(58, vb (decide (s105.1 < (w64 (y103.1 - 1)))))] [13, 10, 0, 4] ?_)))
      refine oe (nt (cC h113 (fun h119 => ?_) (fun h120 => ?_)))
      · refine qk (nt (qs (qb ?_)))
        obtain ⟨x121, hx122, h123⟩ := bS h119
        obtain ⟨x124, hx125, h126⟩ := bS h123
        obtain ⟨x127, hx128, h129⟩ := bS h126
        obtain ⟨l130, hm131, h132⟩ := bS h129
        replace hm131 := (sI hm131).symm
        have hl133 := len_set hm131
        obtain ⟨x134, hx135, h136⟩ := bS h132
        obtain ⟨l137, hm138, h139⟩ := bS h136
        replace hm138 := (sI hm138).symm
        have hl140 := len_set hm138
        refine JC_cut (τ := Unit) (fun _ => [(13, vi s105.1), (10, vi y103.1), (0, .v (.slice a0_0 l137.length c0_0)), (4, .v (.func (.func 35) #[] #[.pointer (some ⟨g4_0, 0, none⟩), .pointer (some ⟨g4_1, 0, none⟩), .pointer (some ⟨g4_2, 0, none⟩)]))]) (fun _ => []) (fun _ => [SlRes e0_0 l137 a0_0 c0_0]) ?_ (fun _ => ?_)
        · refine jw [13, 10, 0, 4] [0] ?_
          refine JC_heldN (ks := []) (Rk := []) 18 (by kernel_rfl) (by kernel_rfl) ?_
          refine htq 0 (.v (.slice a0_0 s105.2.length c0_0)) [] ?_
          refine htq 1 (vi s105.1) [] ?_
          refine htq 2 (.v (.slice a0_0 s105.2.length c0_0)) [] ?_
          refine htq 3 (vi s105.1) [] ?_
          refine htq 4 (vi (w64 (s105.1 + 1))) [] ?_
          refine hk [65, 63, 62, 61, 13, 10, 0, 4] ?_
          refine htq 5 (.v (.slice a0_0 s105.2.length c0_0)) [] ?_
          refine htq 6 (vi s105.1) [] ?_
          refine htq 7 (vi (w64 (s105.1 + 1))) [] ?_
          refine hk [68, 66, 65, 63, 62, 61, 13, 10, 0, 4] ?_
          refine htq 10 (.v (.slice a0_0 s105.2.length c0_0)) [] ?_
          refine htq 11 (vi s105.1) [] ?_
          refine ha2 8 12 ?_ ?_
          · refine hi (fun γ0 δ hm => ?_)
            refine JG_index (by kernel_rfl) (d := a0_0) (m := s105.2.length) (j := (w64 (s105.1 + 1))) (s := 1) (by kernel_rfl) (fun w hs => (hs.view 0 rfl)) rfl hx122 rfl ?_
            refine gn hm [69, 72, 71, 65, 63, 62, 61, 13, 10, 0, 4] [] ?_
            refine ha2 9 12 ?_ ?_
            · refine hi (fun γ0 δ hm => ?_)
              refine JG_loadq (by kernel_rfl) (t := 3) (d := a0_0) (Int.toNat (w64 (s105.1 + 1)) * 1) 0 (by kernel_rfl) (cs := [.int .i64 x121]) (v := .int .i64 x121) (fun w hs => (hs.view 0 rfl).flatq hx122) (by kernel_rfl) rfl ?_
              refine gn hm [70, 72, 71, 65, 63, 62, 61, 13, 10, 0, 4] [] ?_
              refine ha1 12 ?_
              refine hi (fun γ0 δ hm => ?_)
              refine JG_index (by kernel_rfl) (d := a0_0) (m := s105.2.length) (j := s105.1) (s := 1) (by kernel_rfl) (fun w hs => (hs.view 0 rfl)) rfl hx125 rfl ?_
              refine gn hm [73, 70, 65, 63, 62, 61, 13, 10, 0, 4] [] ?_
              refine ha1 13 ?_
              refine hi (fun γ0 δ hm => ?_)
              refine JG_loadq (by kernel_rfl) (t := 3) (d := a0_0) (Int.toNat s105.1 * 1) 0 (by kernel_rfl) (cs := [.int .i64 x124]) (v := .int .i64 x124) (fun w hs => (hs.view 0 rfl).flatq hx125) (by kernel_rfl) rfl ?_
              refine gn hm [74, 70, 65, 63, 62, 61, 13, 10, 0, 4] [] ?_
              refine ha1 14 ?_
              refine hi (fun γ0 δ hm => ?_)
              refine JG_index (by kernel_rfl) (d := a0_0) (m := s105.2.length) (j := s105.1) (s := 1) (by kernel_rfl) (fun w hs => (hs.view 0 rfl)) rfl hx128 rfl ?_
              refine gn hm [75, 74, 70, 65, 63, 13, 10, 0, 4] [] ?_
              refine ha1 15 ?_
              refine hi (fun γ0 δ hm => ?_)
              refine JG_storeq (α := Int) (d := a0_0) (vs := [.int .i64 x121]) (j := s105.1) (x' := x121) (by kernel_rfl) 0 (by kernel_rfl) hx128 (Rc := []) (Rr := []) rfl (by kernel_rfl) (fun w c F Fs ho _ _ => own_flat_set (by kernel_rfl) ho) hm131 (sl' := [(75, .q a0_0 (Int.toNat s105.1 * 1)), (74, vi x124), (70, vi x121), (65, vi (w64 (s105.1 + 1))), (63, .v (.slice a0_0 s105.2.length c0_0)), (13, vi s105.1), (10, vi y103.1), (0, .v (.slice a0_0 s105.2.length c0_0)), (4, .v (.func (.func 35) #[] #[.pointer (some ⟨g4_0, 0, none⟩), .pointer (some ⟨g4_1, 0, none⟩), .pointer (some ⟨g4_2, 0, none⟩)]))]) (by kernel_rfl) ?_
              refine KG_eqE (sl' := [(75, .q a0_0 (Int.toNat s105.1 * 1)), (74, vi x124), (70, vi x121), (65, vi (w64 (s105.1 + 1))), (63, .v (.slice a0_0 l130.length c0_0)), (13, vi s105.1), (10, vi y103.1), (0, .v (.slice a0_0 l130.length c0_0)), (4, .v (.func (.func 35) #[] #[.pointer (some ⟨g4_0, 0, none⟩), .pointer (some ⟨g4_1, 0, none⟩), .pointer (some ⟨g4_2, 0, none⟩)]))]) (bx' := []) (by simp only [hl133]) rfl ?_
              refine gn hm [74, 65, 63, 13, 10, 0, 4] [] ?_
              refine ha1 16 ?_
              refine hi (fun γ0 δ hm => ?_)
              refine JG_index (by kernel_rfl) (d := a0_0) (m := l130.length) (j := (w64 (s105.1 + 1))) (s := 1) (by kernel_rfl) (fun w hs => (hs.view 0 rfl)) rfl hx135 rfl ?_
              refine gn hm [76, 74, 13, 10, 0, 4] [] ?_
              refine ha1 17 ?_
              refine hi (fun γ0 δ hm => ?_)
              refine JG_storeq (α := Int) (d := a0_0) (vs := [.int .i64 x124]) (j := (w64 (s105.1 + 1))) (x' := x124) (by kernel_rfl) 0 (by kernel_rfl) hx135 (Rc := []) (Rr := []) rfl (by kernel_rfl) (fun w c F Fs ho _ _ => own_flat_set (by kernel_rfl) ho) hm138 (sl' := [(76, .q a0_0 (Int.toNat (w64 (s105.1 + 1)) * 1)), (74, vi x124), (13, vi s105.1), (10, vi y103.1), (0, .v (.slice a0_0 l130.length c0_0)), (4, .v (.func (.func 35) #[] #[.pointer (some ⟨g4_0, 0, none⟩), .pointer (some ⟨g4_1, 0, none⟩), .pointer (some ⟨g4_2, 0, none⟩)]))]) (by kernel_rfl) ?_
              refine KG_eqE (sl' := [(76, .q a0_0 (Int.toNat (w64 (s105.1 + 1)) * 1)), (74, vi x124), (13, vi s105.1), (10, vi y103.1), (0, .v (.slice a0_0 l137.length c0_0)), (4, .v (.func (.func 35) #[] #[.pointer (some ⟨g4_0, 0, none⟩), .pointer (some ⟨g4_1, 0, none⟩), .pointer (some ⟨g4_2, 0, none⟩)]))]) (bx' := []) (by simp only [hl140]) rfl ?_
              refine gn hm [13, 10, 0, 4] [] ?_
              exact hd () [13, 10, 0, 4] [0] 0
            · refine hi (fun γ0 δ hm => ?_)
              refine JG_index (by kernel_rfl) (d := a0_0) (m := s105.2.length) (j := s105.1) (s := 1) (by kernel_rfl) (fun w hs => (hs.view 0 rfl)) rfl hx125 rfl ?_
              refine gn hm [73, 69, 65, 63, 62, 61, 13, 10, 0, 4] [] ?_
              refine ha2 9 13 ?_ ?_
              · refine hi (fun γ0 δ hm => ?_)
                refine JG_loadq (by kernel_rfl) (t := 3) (d := a0_0) (Int.toNat (w64 (s105.1 + 1)) * 1) 0 (by kernel_rfl) (cs := [.int .i64 x121]) (v := .int .i64 x121) (fun w hs => (hs.view 0 rfl).flatq hx122) (by kernel_rfl) rfl ?_
                refine gn hm [70, 73, 65, 63, 62, 61, 13, 10, 0, 4] [] ?_
                refine ha1 13 ?_
                refine hi (fun γ0 δ hm => ?_)
                refine JG_loadq (by kernel_rfl) (t := 3) (d := a0_0) (Int.toNat s105.1 * 1) 0 (by kernel_rfl) (cs := [.int .i64 x124]) (v := .int .i64 x124) (fun w hs => (hs.view 0 rfl).flatq hx125) (by kernel_rfl) rfl ?_
                refine gn hm [74, 70, 65, 63, 62, 61, 13, 10, 0, 4] [] ?_
                refine ha1 14 ?_
                refine hi (fun γ0 δ hm => ?_)
                refine JG_index (by kernel_rfl) (d := a0_0) (m := s105.2.length) (j := s105.1) (s := 1) (by kernel_rfl) (fun w hs => (hs.view 0 rfl)) rfl hx128 rfl ?_
                refine gn hm [75, 74, 70, 65, 63, 13, 10, 0, 4] [] ?_
                refine ha1 15 ?_
                refine hi (fun γ0 δ hm => ?_)
                refine JG_storeq (α := Int) (d := a0_0) (vs := [.int .i64 x121]) (j := s105.1) (x' := x121) (by kernel_rfl) 0 (by kernel_rfl) hx128 (Rc := []) (Rr := []) rfl (by kernel_rfl) (fun w c F Fs ho _ _ => own_flat_set (by kernel_rfl) ho) hm131 (sl' := [(75, .q a0_0 (Int.toNat s105.1 * 1)), (74, vi x124), (70, vi x121), (65, vi (w64 (s105.1 + 1))), (63, .v (.slice a0_0 s105.2.length c0_0)), (13, vi s105.1), (10, vi y103.1), (0, .v (.slice a0_0 s105.2.length c0_0)), (4, .v (.func (.func 35) #[] #[.pointer (some ⟨g4_0, 0, none⟩), .pointer (some ⟨g4_1, 0, none⟩), .pointer (some ⟨g4_2, 0, none⟩)]))]) (by kernel_rfl) ?_
                refine KG_eqE (sl' := [(75, .q a0_0 (Int.toNat s105.1 * 1)), (74, vi x124), (70, vi x121), (65, vi (w64 (s105.1 + 1))), (63, .v (.slice a0_0 l130.length c0_0)), (13, vi s105.1), (10, vi y103.1), (0, .v (.slice a0_0 l130.length c0_0)), (4, .v (.func (.func 35) #[] #[.pointer (some ⟨g4_0, 0, none⟩), .pointer (some ⟨g4_1, 0, none⟩), .pointer (some ⟨g4_2, 0, none⟩)]))]) (bx' := []) (by simp only [hl133]) rfl ?_
                refine gn hm [74, 65, 63, 13, 10, 0, 4] [] ?_
                refine ha1 16 ?_
                refine hi (fun γ0 δ hm => ?_)
                refine JG_index (by kernel_rfl) (d := a0_0) (m := l130.length) (j := (w64 (s105.1 + 1))) (s := 1) (by kernel_rfl) (fun w hs => (hs.view 0 rfl)) rfl hx135 rfl ?_
                refine gn hm [76, 74, 13, 10, 0, 4] [] ?_
                refine ha1 17 ?_
                refine hi (fun γ0 δ hm => ?_)
                refine JG_storeq (α := Int) (d := a0_0) (vs := [.int .i64 x124]) (j := (w64 (s105.1 + 1))) (x' := x124) (by kernel_rfl) 0 (by kernel_rfl) hx135 (Rc := []) (Rr := []) rfl (by kernel_rfl) (fun w c F Fs ho _ _ => own_flat_set (by kernel_rfl) ho) hm138 (sl' := [(76, .q a0_0 (Int.toNat (w64 (s105.1 + 1)) * 1)), (74, vi x124), (13, vi s105.1), (10, vi y103.1), (0, .v (.slice a0_0 l130.length c0_0)), (4, .v (.func (.func 35) #[] #[.pointer (some ⟨g4_0, 0, none⟩), .pointer (some ⟨g4_1, 0, none⟩), .pointer (some ⟨g4_2, 0, none⟩)]))]) (by kernel_rfl) ?_
                refine KG_eqE (sl' := [(76, .q a0_0 (Int.toNat (w64 (s105.1 + 1)) * 1)), (74, vi x124), (13, vi s105.1), (10, vi y103.1), (0, .v (.slice a0_0 l137.length c0_0)), (4, .v (.func (.func 35) #[] #[.pointer (some ⟨g4_0, 0, none⟩), .pointer (some ⟨g4_1, 0, none⟩), .pointer (some ⟨g4_2, 0, none⟩)]))]) (bx' := []) (by simp only [hl140]) rfl ?_
                refine gn hm [13, 10, 0, 4] [] ?_
                exact hd () [13, 10, 0, 4] [0] 0
              · refine hi (fun γ0 δ hm => ?_)
                refine JG_loadq (by kernel_rfl) (t := 3) (d := a0_0) (Int.toNat s105.1 * 1) 0 (by kernel_rfl) (cs := [.int .i64 x124]) (v := .int .i64 x124) (fun w hs => (hs.view 0 rfl).flatq hx125) (by kernel_rfl) rfl ?_
                refine gn hm [74, 69, 65, 63, 62, 61, 13, 10, 0, 4] [] ?_
                refine ha1 9 ?_
                refine hi (fun γ0 δ hm => ?_)
                refine JG_loadq (by kernel_rfl) (t := 3) (d := a0_0) (Int.toNat (w64 (s105.1 + 1)) * 1) 0 (by kernel_rfl) (cs := [.int .i64 x121]) (v := .int .i64 x121) (fun w hs => (hs.view 0 rfl).flatq hx122) (by kernel_rfl) rfl ?_
                refine gn hm [70, 74, 65, 63, 62, 61, 13, 10, 0, 4] [] ?_
                refine ha1 14 ?_
                refine hi (fun γ0 δ hm => ?_)
                refine JG_index (by kernel_rfl) (d := a0_0) (m := s105.2.length) (j := s105.1) (s := 1) (by kernel_rfl) (fun w hs => (hs.view 0 rfl)) rfl hx128 rfl ?_
                refine gn hm [75, 70, 74, 65, 63, 13, 10, 0, 4] [] ?_
                refine ha1 15 ?_
                refine hi (fun γ0 δ hm => ?_)
                refine JG_storeq (α := Int) (d := a0_0) (vs := [.int .i64 x121]) (j := s105.1) (x' := x121) (by kernel_rfl) 0 (by kernel_rfl) hx128 (Rc := []) (Rr := []) rfl (by kernel_rfl) (fun w c F Fs ho _ _ => own_flat_set (by kernel_rfl) ho) hm131 (sl' := [(75, .q a0_0 (Int.toNat s105.1 * 1)), (70, vi x121), (74, vi x124), (65, vi (w64 (s105.1 + 1))), (63, .v (.slice a0_0 s105.2.length c0_0)), (13, vi s105.1), (10, vi y103.1), (0, .v (.slice a0_0 s105.2.length c0_0)), (4, .v (.func (.func 35) #[] #[.pointer (some ⟨g4_0, 0, none⟩), .pointer (some ⟨g4_1, 0, none⟩), .pointer (some ⟨g4_2, 0, none⟩)]))]) (by kernel_rfl) ?_
                refine KG_eqE (sl' := [(75, .q a0_0 (Int.toNat s105.1 * 1)), (70, vi x121), (74, vi x124), (65, vi (w64 (s105.1 + 1))), (63, .v (.slice a0_0 l130.length c0_0)), (13, vi s105.1), (10, vi y103.1), (0, .v (.slice a0_0 l130.length c0_0)), (4, .v (.func (.func 35) #[] #[.pointer (some ⟨g4_0, 0, none⟩), .pointer (some ⟨g4_1, 0, none⟩), .pointer (some ⟨g4_2, 0, none⟩)]))]) (bx' := []) (by simp only [hl133]) rfl ?_
                refine gn hm [74, 65, 63, 13, 10, 0, 4] [] ?_
                refine ha1 16 ?_
                refine hi (fun γ0 δ hm => ?_)
                refine JG_index (by kernel_rfl) (d := a0_0) (m := l130.length) (j := (w64 (s105.1 + 1))) (s := 1) (by kernel_rfl) (fun w hs => (hs.view 0 rfl)) rfl hx135 rfl ?_
                refine gn hm [76, 74, 13, 10, 0, 4] [] ?_
                refine ha1 17 ?_
                refine hi (fun γ0 δ hm => ?_)
                refine JG_storeq (α := Int) (d := a0_0) (vs := [.int .i64 x124]) (j := (w64 (s105.1 + 1))) (x' := x124) (by kernel_rfl) 0 (by kernel_rfl) hx135 (Rc := []) (Rr := []) rfl (by kernel_rfl) (fun w c F Fs ho _ _ => own_flat_set (by kernel_rfl) ho) hm138 (sl' := [(76, .q a0_0 (Int.toNat (w64 (s105.1 + 1)) * 1)), (74, vi x124), (13, vi s105.1), (10, vi y103.1), (0, .v (.slice a0_0 l130.length c0_0)), (4, .v (.func (.func 35) #[] #[.pointer (some ⟨g4_0, 0, none⟩), .pointer (some ⟨g4_1, 0, none⟩), .pointer (some ⟨g4_2, 0, none⟩)]))]) (by kernel_rfl) ?_
                refine KG_eqE (sl' := [(76, .q a0_0 (Int.toNat (w64 (s105.1 + 1)) * 1)), (74, vi x124), (13, vi s105.1), (10, vi y103.1), (0, .v (.slice a0_0 l137.length c0_0)), (4, .v (.func (.func 35) #[] #[.pointer (some ⟨g4_0, 0, none⟩), .pointer (some ⟨g4_1, 0, none⟩), .pointer (some ⟨g4_2, 0, none⟩)]))]) (bx' := []) (by simp only [hl140]) rfl ?_
                refine gn hm [13, 10, 0, 4] [] ?_
                exact hd () [13, 10, 0, 4] [0] 0
          · refine hi (fun γ0 δ hm => ?_)
            refine JG_index (by kernel_rfl) (d := a0_0) (m := s105.2.length) (j := s105.1) (s := 1) (by kernel_rfl) (fun w hs => (hs.view 0 rfl)) rfl hx125 rfl ?_
            refine gn hm [73, 68, 66, 65, 63, 62, 61, 13, 10, 0, 4] [] ?_
            refine ha2 8 13 ?_ ?_
            · refine hi (fun γ0 δ hm => ?_)
              refine JG_index (by kernel_rfl) (d := a0_0) (m := s105.2.length) (j := (w64 (s105.1 + 1))) (s := 1) (by kernel_rfl) (fun w hs => (hs.view 0 rfl)) rfl hx122 rfl ?_
              refine gn hm [69, 73, 65, 63, 62, 61, 13, 10, 0, 4] [] ?_
              refine ha2 9 13 ?_ ?_
              · refine hi (fun γ0 δ hm => ?_)
                refine JG_loadq (by kernel_rfl) (t := 3) (d := a0_0) (Int.toNat (w64 (s105.1 + 1)) * 1) 0 (by kernel_rfl) (cs := [.int .i64 x121]) (v := .int .i64 x121) (fun w hs => (hs.view 0 rfl).flatq hx122) (by kernel_rfl) rfl ?_
                refine gn hm [70, 73, 65, 63, 62, 61, 13, 10, 0, 4] [] ?_
                refine ha1 13 ?_
                refine hi (fun γ0 δ hm => ?_)
                refine JG_loadq (by kernel_rfl) (t := 3) (d := a0_0) (Int.toNat s105.1 * 1) 0 (by kernel_rfl) (cs := [.int .i64 x124]) (v := .int .i64 x124) (fun w hs => (hs.view 0 rfl).flatq hx125) (by kernel_rfl) rfl ?_
                refine gn hm [74, 70, 65, 63, 62, 61, 13, 10, 0, 4] [] ?_
                refine ha1 14 ?_
                refine hi (fun γ0 δ hm => ?_)
                refine JG_index (by kernel_rfl) (d := a0_0) (m := s105.2.length) (j := s105.1) (s := 1) (by kernel_rfl) (fun w hs => (hs.view 0 rfl)) rfl hx128 rfl ?_
                refine gn hm [75, 74, 70, 65, 63, 13, 10, 0, 4] [] ?_
                refine ha1 15 ?_
                refine hi (fun γ0 δ hm => ?_)
                refine JG_storeq (α := Int) (d := a0_0) (vs := [.int .i64 x121]) (j := s105.1) (x' := x121) (by kernel_rfl) 0 (by kernel_rfl) hx128 (Rc := []) (Rr := []) rfl (by kernel_rfl) (fun w c F Fs ho _ _ => own_flat_set (by kernel_rfl) ho) hm131 (sl' := [(75, .q a0_0 (Int.toNat s105.1 * 1)), (74, vi x124), (70, vi x121), (65, vi (w64 (s105.1 + 1))), (63, .v (.slice a0_0 s105.2.length c0_0)), (13, vi s105.1), (10, vi y103.1), (0, .v (.slice a0_0 s105.2.length c0_0)), (4, .v (.func (.func 35) #[] #[.pointer (some ⟨g4_0, 0, none⟩), .pointer (some ⟨g4_1, 0, none⟩), .pointer (some ⟨g4_2, 0, none⟩)]))]) (by kernel_rfl) ?_
                refine KG_eqE (sl' := [(75, .q a0_0 (Int.toNat s105.1 * 1)), (74, vi x124), (70, vi x121), (65, vi (w64 (s105.1 + 1))), (63, .v (.slice a0_0 l130.length c0_0)), (13, vi s105.1), (10, vi y103.1), (0, .v (.slice a0_0 l130.length c0_0)), (4, .v (.func (.func 35) #[] #[.pointer (some ⟨g4_0, 0, none⟩), .pointer (some ⟨g4_1, 0, none⟩), .pointer (some ⟨g4_2, 0, none⟩)]))]) (bx' := []) (by simp only [hl133]) rfl ?_
                refine gn hm [74, 65, 63, 13, 10, 0, 4] [] ?_
                refine ha1 16 ?_
                refine hi (fun γ0 δ hm => ?_)
                refine JG_index (by kernel_rfl) (d := a0_0) (m := l130.length) (j := (w64 (s105.1 + 1))) (s := 1) (by kernel_rfl) (fun w hs => (hs.view 0 rfl)) rfl hx135 rfl ?_
                refine gn hm [76, 74, 13, 10, 0, 4] [] ?_
                refine ha1 17 ?_
                refine hi (fun γ0 δ hm => ?_)
                refine JG_storeq (α := Int) (d := a0_0) (vs := [.int .i64 x124]) (j := (w64 (s105.1 + 1))) (x' := x124) (by kernel_rfl) 0 (by kernel_rfl) hx135 (Rc := []) (Rr := []) rfl (by kernel_rfl) (fun w c F Fs ho _ _ => own_flat_set (by kernel_rfl) ho) hm138 (sl' := [(76, .q a0_0 (Int.toNat (w64 (s105.1 + 1)) * 1)), (74, vi x124), (13, vi s105.1), (10, vi y103.1), (0, .v (.slice a0_0 l130.length c0_0)), (4, .v (.func (.func 35) #[] #[.pointer (some ⟨g4_0, 0, none⟩), .pointer (some ⟨g4_1, 0, none⟩), .pointer (some ⟨g4_2, 0, none⟩)]))]) (by kernel_rfl) ?_
                refine KG_eqE (sl' := [(76, .q a0_0 (Int.toNat (w64 (s105.1 + 1)) * 1)), (74, vi x124), (13, vi s105.1), (10, vi y103.1), (0, .v (.slice a0_0 l137.length c0_0)), (4, .v (.func (.func 35) #[] #[.pointer (some ⟨g4_0, 0, none⟩), .pointer (some ⟨g4_1, 0, none⟩), .pointer (some ⟨g4_2, 0, none⟩)]))]) (bx' := []) (by simp only [hl140]) rfl ?_
                refine gn hm [13, 10, 0, 4] [] ?_
                exact hd () [13, 10, 0, 4] [0] 0
              · refine hi (fun γ0 δ hm => ?_)
                refine JG_loadq (by kernel_rfl) (t := 3) (d := a0_0) (Int.toNat s105.1 * 1) 0 (by kernel_rfl) (cs := [.int .i64 x124]) (v := .int .i64 x124) (fun w hs => (hs.view 0 rfl).flatq hx125) (by kernel_rfl) rfl ?_
                refine gn hm [74, 69, 65, 63, 62, 61, 13, 10, 0, 4] [] ?_
                refine ha1 9 ?_
                refine hi (fun γ0 δ hm => ?_)
                refine JG_loadq (by kernel_rfl) (t := 3) (d := a0_0) (Int.toNat (w64 (s105.1 + 1)) * 1) 0 (by kernel_rfl) (cs := [.int .i64 x121]) (v := .int .i64 x121) (fun w hs => (hs.view 0 rfl).flatq hx122) (by kernel_rfl) rfl ?_
                refine gn hm [70, 74, 65, 63, 62, 61, 13, 10, 0, 4] [] ?_
                refine ha1 14 ?_
                refine hi (fun γ0 δ hm => ?_)
                refine JG_index (by kernel_rfl) (d := a0_0) (m := s105.2.length) (j := s105.1) (s := 1) (by kernel_rfl) (fun w hs => (hs.view 0 rfl)) rfl hx128 rfl ?_
                refine gn hm [75, 70, 74, 65, 63, 13, 10, 0, 4] [] ?_
                refine ha1 15 ?_
                refine hi (fun γ0 δ hm => ?_)
                refine JG_storeq (α := Int) (d := a0_0) (vs := [.int .i64 x121]) (j := s105.1) (x' := x121) (by kernel_rfl) 0 (by kernel_rfl) hx128 (Rc := []) (Rr := []) rfl (by kernel_rfl) (fun w c F Fs ho _ _ => own_flat_set (by kernel_rfl) ho) hm131 (sl' := [(75, .q a0_0 (Int.toNat s105.1 * 1)), (70, vi x121), (74, vi x124), (65, vi (w64 (s105.1 + 1))), (63, .v (.slice a0_0 s105.2.length c0_0)), (13, vi s105.1), (10, vi y103.1), (0, .v (.slice a0_0 s105.2.length c0_0)), (4, .v (.func (.func 35) #[] #[.pointer (some ⟨g4_0, 0, none⟩), .pointer (some ⟨g4_1, 0, none⟩), .pointer (some ⟨g4_2, 0, none⟩)]))]) (by kernel_rfl) ?_
                refine KG_eqE (sl' := [(75, .q a0_0 (Int.toNat s105.1 * 1)), (70, vi x121), (74, vi x124), (65, vi (w64 (s105.1 + 1))), (63, .v (.slice a0_0 l130.length c0_0)), (13, vi s105.1), (10, vi y103.1), (0, .v (.slice a0_0 l130.length c0_0)), (4, .v (.func (.func 35) #[] #[.pointer (some ⟨g4_0, 0, none⟩), .pointer (some ⟨g4_1, 0, none⟩), .pointer (some ⟨g4_2, 0, none⟩)]))]) (bx' := []) (by simp only [hl133]) rfl ?_
                refine gn hm [74, 65, 63, 13, 10, 0, 4] [] ?_
                refine ha1 16 ?_
                refine hi (fun γ0 δ hm => ?_)
                refine JG_index (by kernel_rfl) (d := a0_0) (m := l130.length) (j := (w64 (s105.1 + 1))) (s := 1) (by kernel_rfl) (fun w hs => (hs.view 0 rfl)) rfl hx135 rfl ?_
                refine gn hm [76, 74, 13, 10, 0, 4] [] ?_
                refine ha1 17 ?_
                refine hi (fun γ0 δ hm => ?_)
                refine JG_storeq (α := Int) (d := a0_0) (vs := [.int .i64 x124]) (j := (w64 (s105.1 + 1))) (x' := x124) (by kernel_rfl) 0 (by kernel_rfl) hx135 (Rc := []) (Rr := []) rfl (by kernel_rfl) (fun w c F Fs ho _ _ => own_flat_set (by kernel_rfl) ho) hm138 (sl' := [(76, .q a0_0 (Int.toNat (w64 (s105.1 + 1)) * 1)), (74, vi x124), (13, vi s105.1), (10, vi y103.1), (0, .v (.slice a0_0 l130.length c0_0)), (4, .v (.func (.func 35) #[] #[.pointer (some ⟨g4_0, 0, none⟩), .pointer (some ⟨g4_1, 0, none⟩), .pointer (some ⟨g4_2, 0, none⟩)]))]) (by kernel_rfl) ?_
                refine KG_eqE (sl' := [(76, .q a0_0 (Int.toNat (w64 (s105.1 + 1)) * 1)), (74, vi x124), (13, vi s105.1), (10, vi y103.1), (0, .v (.slice a0_0 l137.length c0_0)), (4, .v (.func (.func 35) #[] #[.pointer (some ⟨g4_0, 0, none⟩), .pointer (some ⟨g4_1, 0, none⟩), .pointer (some ⟨g4_2, 0, none⟩)]))]) (bx' := []) (by simp only [hl140]) rfl ?_
                refine gn hm [13, 10, 0, 4] [] ?_
                exact hd () [13, 10, 0, 4] [0] 0
            · refine hi (fun γ0 δ hm => ?_)
              refine JG_loadq (by kernel_rfl) (t := 3) (d := a0_0) (Int.toNat s105.1 * 1) 0 (by kernel_rfl) (cs := [.int .i64 x124]) (v := .int .i64 x124) (fun w hs => (hs.view 0 rfl).flatq hx125) (by kernel_rfl) rfl ?_
              refine gn hm [74, 68, 66, 65, 63, 62, 61, 13, 10, 0, 4] [] ?_
              refine ha1 8 ?_
              refine hi (fun γ0 δ hm => ?_)
              refine JG_index (by kernel_rfl) (d := a0_0) (m := s105.2.length) (j := (w64 (s105.1 + 1))) (s := 1) (by kernel_rfl) (fun w hs => (hs.view 0 rfl)) rfl hx122 rfl ?_
              refine gn hm [69, 74, 65, 63, 62, 61, 13, 10, 0, 4] [] ?_
              refine ha1 9 ?_
              refine hi (fun γ0 δ hm => ?_)
              refine JG_loadq (by kernel_rfl) (t := 3) (d := a0_0) (Int.toNat (w64 (s105.1 + 1)) * 1) 0 (by kernel_rfl) (cs := [.int .i64 x121]) (v := .int .i64 x121) (fun w hs => (hs.view 0 rfl).flatq hx122) (by kernel_rfl) rfl ?_
              refine gn hm [70, 74, 65, 63, 62, 61, 13, 10, 0, 4] [] ?_
              refine ha1 14 ?_
              refine hi (fun γ0 δ hm => ?_)
              refine JG_index (by kernel_rfl) (d := a0_0) (m := s105.2.length) (j := s105.1) (s := 1) (by kernel_rfl) (fun w hs => (hs.view 0 rfl)) rfl hx128 rfl ?_
              refine gn hm [75, 70, 74, 65, 63, 13, 10, 0, 4] [] ?_
              refine ha1 15 ?_
              refine hi (fun γ0 δ hm => ?_)
              refine JG_storeq (α := Int) (d := a0_0) (vs := [.int .i64 x121]) (j := s105.1) (x' := x121) (by kernel_rfl) 0 (by kernel_rfl) hx128 (Rc := []) (Rr := []) rfl (by kernel_rfl) (fun w c F Fs ho _ _ => own_flat_set (by kernel_rfl) ho) hm131 (sl' := [(75, .q a0_0 (Int.toNat s105.1 * 1)), (70, vi x121), (74, vi x124), (65, vi (w64 (s105.1 + 1))), (63, .v (.slice a0_0 s105.2.length c0_0)), (13, vi s105.1), (10, vi y103.1), (0, .v (.slice a0_0 s105.2.length c0_0)), (4, .v (.func (.func 35) #[] #[.pointer (some ⟨g4_0, 0, none⟩), .pointer (some ⟨g4_1, 0, none⟩), .pointer (some ⟨g4_2, 0, none⟩)]))]) (by kernel_rfl) ?_
              refine KG_eqE (sl' := [(75, .q a0_0 (Int.toNat s105.1 * 1)), (70, vi x121), (74, vi x124), (65, vi (w64 (s105.1 + 1))), (63, .v (.slice a0_0 l130.length c0_0)), (13, vi s105.1), (10, vi y103.1), (0, .v (.slice a0_0 l130.length c0_0)), (4, .v (.func (.func 35) #[] #[.pointer (some ⟨g4_0, 0, none⟩), .pointer (some ⟨g4_1, 0, none⟩), .pointer (some ⟨g4_2, 0, none⟩)]))]) (bx' := []) (by simp only [hl133]) rfl ?_
              refine gn hm [74, 65, 63, 13, 10, 0, 4] [] ?_
              refine ha1 16 ?_
              refine hi (fun γ0 δ hm => ?_)
              refine JG_index (by kernel_rfl) (d := a0_0) (m := l130.length) (j := (w64 (s105.1 + 1))) (s := 1) (by kernel_rfl) (fun w hs => (hs.view 0 rfl)) rfl hx135 rfl ?_
              refine gn hm [76, 74, 13, 10, 0, 4] [] ?_
              refine ha1 17 ?_
              refine hi (fun γ0 δ hm => ?_)
              refine JG_storeq (α := Int) (d := a0_0) (vs := [.int .i64 x124]) (j := (w64 (s105.1 + 1))) (x' := x124) (by kernel_rfl) 0 (by kernel_rfl) hx135 (Rc := []) (Rr := []) rfl (by kernel_rfl) (fun w c F Fs ho _ _ => own_flat_set (by kernel_rfl) ho) hm138 (sl' := [(76, .q a0_0 (Int.toNat (w64 (s105.1 + 1)) * 1)), (74, vi x124), (13, vi s105.1), (10, vi y103.1), (0, .v (.slice a0_0 l130.length c0_0)), (4, .v (.func (.func 35) #[] #[.pointer (some ⟨g4_0, 0, none⟩), .pointer (some ⟨g4_1, 0, none⟩), .pointer (some ⟨g4_2, 0, none⟩)]))]) (by kernel_rfl) ?_
              refine KG_eqE (sl' := [(76, .q a0_0 (Int.toNat (w64 (s105.1 + 1)) * 1)), (74, vi x124), (13, vi s105.1), (10, vi y103.1), (0, .v (.slice a0_0 l137.length c0_0)), (4, .v (.func (.func 35) #[] #[.pointer (some ⟨g4_0, 0, none⟩), .pointer (some ⟨g4_1, 0, none⟩), .pointer (some ⟨g4_2, 0, none⟩)]))]) (bx' := []) (by simp only [hl140]) rfl ?_
              refine gn hm [13, 10, 0, 4] [] ?_
              exact hd () [13, 10, 0, 4] [0] 0
        refine bn (nt (qr (oN 3 [(13, vi (w64 (s105.1 + 1)))] [10, 0, 4] ?_)))
        exact oe (ct h139 () [13, 10, 0, 4] [0] 0)
      refine qx (nx (nx (bh ?_)))
      have h142 := leafB hd114 h120 h110
      exact mp (s105.2, ()) h142 [0, 4] [0] 0
    have h117 := (congrFun hk112 _).symm.trans h117p
    refine nt (qe (nr (rt [] (fun γ w hs => ?_))))
    rw [← sI h117]
    exact hs.turned (is := [0]) rfl
  refine qk (nt (qs (qs (qr (oN 4 [(80, vb ((w64 (x3 - x2)) == 1))] [0, 1, 2, 3, 4] ?_)))))
  refine oe (nt (cC h91 (fun h229 => ?_) (fun h230 => ?_)))
  · refine qs (qr (oN 2 [(14, vi x1)] [0, 2, 4] ?_))
    refine oe (nt (qs (qr (oN 2 [(15, vi x2)] [14, 0, 2, 4] ?_))))
    refine oe (nt (qs ?_))
    obtain ⟨r234, hL235, h236⟩ := bS h229
    obtain ⟨k237, hk238, h236⟩ := brkS h236
    refine JC_cutP (τ := (Int) × (Unit)) (fun y => k237 y.1 = some r) (fun y242 => [(14, vi y242.1), (0, .v (.slice a0_0 x0.length c0_0)), (2, vi x2), (4, .v (.func (.func 35) #[] #[.pointer (some ⟨g4_0, 0, none⟩), .pointer (some ⟨g4_1, 0, none⟩), .pointer (some ⟨g4_2, 0, none⟩)]))]) (fun y242 => []) (fun y242 => [SlRes e0_0 x0 a0_0 c0_0]) ?_ (fun y242 h243p => ?_)
    · refine qb (lp Unit hL235 (fun s231 y232 => [(15, vi s231.1), (14, vi s231.2), (0, .v (.slice a0_0 x0.length c0_0)), (2, vi x2), (4, .v (.func (.func 35) #[] #[.pointer (some ⟨g4_0, 0, none⟩), .pointer (some ⟨g4_1, 0, none⟩), .pointer (some ⟨g4_2, 0, none⟩)]))]) (fun s231 y232 => []) (fun s231 y232 => [SlRes e0_0 x0 a0_0 c0_0]) () [15, 14, 0, 2, 4] [0] 0 (fun s231 y232 t233 h239 hd240 => ?_))
      refine qs (qs (qr (oN 3 [(85, vb (decide (s231.2 < s231.1)))] [15, 14, 0, 2, 4] ?_)))
      refine oe (nt (cC h239 (fun h283 => ?_) (fun h284 => ?_)))
      · refine qk (nt (qb (qs (qr (oN 7 [(16, vi (w64 (Int.fdiv (wu64 (w64 (s231.2 + s231.1))) 2)))] [15, 14, 0, 2, 4] ?_)))))
        refine oe (nt (qs (JC_quiet (by kernel_rfl) (by kernel_rfl) ?_)))
        refine qN 3 [(94, vi x2), (93, .v (.slice a0_0 x0.length c0_0)), (92, .v (.func (.func 35) #[] #[.pointer (some ⟨g4_0, 0, none⟩), .pointer (some ⟨g4_1, 0, none⟩), .pointer (some ⟨g4_2, 0, none⟩)]))] [16, 15, 14, 0, 2, 4] ?_
        obtain ⟨x285, hx286, h287⟩ := bS h283
        refine qi 1 (fun γ w hs => (hs.view 0 rfl)) hx286 ?_
        refine ql 3 0 (.int .i64 x285) (fun γ w hs => (hs.view 0 rfl).flatq hx286) ?_
        refine qN 2 [(98, vi (w64 (Int.fdiv (wu64 (w64 (s231.2 + s231.1))) 2))), (97, .v (.slice a0_0 x0.length c0_0))] [96, 92, 16, 15, 14, 0, 2, 4] ?_
        obtain ⟨x288, hx289, h290⟩ := bS h287
        refine qi 1 (fun γ w hs => (hs.view 0 rfl)) hx289 ?_
        refine ql 3 0 (.int .i64 x288) (fun γ w hs => (hs.view 0 rfl).flatq hx289) ?_
        obtain ⟨t291, h292, h293⟩ := bS h290
        refine q0 (fun γ w hs => hq w hs.kept _ _ _ h292) ?_
        refine qN 2 [(103, vb (!(decide (t291 < 0))))] [16, 15, 14, 0, 2, 4] ?_
        refine qz (nt (cC h293 (fun h296 => ?_) (fun h297 => ?_)))
        · refine qr (oN 3 [(14, vi (w64 ((w64 (Int.fdiv (wu64 (w64 (s231.2 + s231.1))) 2)) + 1)))] [15, 0, 2, 4] ?_)
          exact oe (bn (ct h296 () [15, 14, 0, 2, 4] [0] 0))
        refine qr (oN 2 [(15, vi (w64 (Int.fdiv (wu64 (w64 (s231.2 + s231.1))) 2)))] [14, 0, 2, 4] ?_)
        exact oe (bn (ct h297 () [15, 14, 0, 2, 4] [0] 0))
      refine qx (nx (nx (bh ?_)))
      have h298 := leafB hd240 h284 h236
      exact mp (s231.2, ()) h298 [14, 0, 2, 4] [0] 0
    have h243 := (congrFun hk238 _).symm.trans h243p
    refine nt (qs (qs (qr (oN 2 [(17, vi x2)] [14, 0, 4] ?_))))
    refine oe (nt ?_)
    obtain ⟨r247, hL248, h249⟩ := bS h243
    obtain ⟨k250, hk251, h249⟩ := brkS h249
    refine JC_cutP (τ := ((List Int)) × (Unit)) (fun y => k250 y.1 = some r) (fun y255 => [(0, .v (.slice a0_0 y255.1.length c0_0)), (4, .v (.func (.func 35) #[] #[.pointer (some ⟨g4_0, 0, none⟩), .pointer (some ⟨g4_1, 0, none⟩), .pointer (some ⟨g4_2, 0, none⟩)]))]) (fun y255 => []) (fun y255 => [SlRes e0_0 y255.1 a0_0 c0_0]) ?_ (fun y255 h256p => ?_)
    · refine qb (lp Unit hL248 (fun s244 y245 => [(17, vi s244.1), (14, vi y242.1), (0, .v (.slice a0_0 s244.2.length c0_0)), (4, .v (.func (.func 35) #[] #[.pointer (some ⟨g4_0, 0, none⟩), .pointer (some ⟨g4_1, 0, none⟩), .pointer (some ⟨g4_2, 0, none⟩)]))]) (fun s244 y245 => []) (fun s244 y245 => [SlRes e0_0 s244.2 a0_0 c0_0]) () [17, 14, 0, 4] [0] 0 (fun s244 y245 t246 h252 hd253 => ?_))
      refine qs (qs (qr (oN 3 [(110, vb (decide (s244.1 > y242.1)))] [17, 14, 0, 4] ?_)))
      refine oe (nt (cC h252 (fun h258 => ?_) (fun h259 => ?_)))
      · refine qk (nt (qs (qb ?_)))
        obtain ⟨x260, hx261, h262⟩ := bS h258
        obtain ⟨x263, hx264, h265⟩ := bS h262
        obtain ⟨x266, hx267, h268⟩ := bS h265
        obtain ⟨l269, hm270, h271⟩ := bS h268
        replace hm270 := (sI hm270).symm
        have hl272 := len_set hm270
        obtain ⟨x273, hx274, h275⟩ := bS h271
        obtain ⟨l276, hm277, h278⟩ := bS h275
        replace hm277 := (sI hm277).symm
        have hl279 := len_set hm277
        refine JC_cut (τ := Unit) (fun _ => [(17, vi s244.1), (14, vi y242.1), (0, .v (.slice a0_0 l276.length c0_0)), (4, .v (.func (.func 35) #[] #[.pointer (some ⟨g4_0, 0, none⟩), .pointer (some ⟨g4_1, 0, none⟩), .pointer (some ⟨g4_2, 0, none⟩)]))]) (fun _ => []) (fun _ => [SlRes e0_0 l276 a0_0 c0_0]) ?_ (fun _ => ?_)
        · refine jw [17, 14, 0, 4] [0] ?_
          refine JC_heldN (ks := []) (Rk := []) 18 (by kernel_rfl) (by kernel_rfl) ?_
          refine htq 0 (.v (.slice a0_0 s244.2.length c0_0)) [] ?_
          refine htq 1 (vi s244.1) [] ?_
          refine htq 2 (.v (.slice a0_0 s244.2.length c0_0)) [] ?_
          refine htq 3 (vi s244.1) [] ?_
          refine htq 4 (vi (w64 (s244.1 - 1))) [] ?_
          refine hk [117, 115, 114, 113, 17, 14, 0, 4] ?_
          refine htq 5 (.v (.slice a0_0 s244.2.length c0_0)) [] ?_
          refine htq 6 (vi s244.1) [] ?_
          refine htq 7 (vi (w64 (s244.1 - 1))) [] ?_
          refine hk [120, 118, 117, 115, 114, 113, 17, 14, 0, 4] ?_
          refine htq 10 (.v (.slice a0_0 s244.2.length c0_0)) [] ?_
          refine htq 11 (vi s244.1) [] ?_
          refine ha2 8 12 ?_ ?_
          · refine hi (fun γ0 δ hm => ?_)
            refine JG_index (by kernel_rfl) (d := a0_0) (m := s244.2.length) (j := (w64 (s244.1 - 1))) (s := 1) (by kernel_rfl) (fun w hs => (hs.view 0 rfl)) rfl hx261 rfl ?_
            refine gn hm [121, 124, 123, 117, 115, 114, 113, 17, 14, 0, 4] [] ?_
            refine ha2 9 12 ?_ ?_
            · refine hi (fun γ0 δ hm => ?_)
              refine JG_loadq (by kernel_rfl) (t := 3) (d := a0_0) (Int.toNat (w64 (s244.1 - 1)) * 1) 0 (by kernel_rfl) (cs := [.int .i64 x260]) (v := .int .i64 x260) (fun w hs => (hs.view 0 rfl).flatq hx261) (by kernel_rfl) rfl ?_
              refine gn hm [122, 124, 123, 117, 115, 114, 113, 17, 14, 0, 4] [] ?_
              refine ha1 12 ?_
              refine hi (fun γ0 δ hm => ?_)
              refine JG_index (by kernel_rfl) (d := a0_0) (m := s244.2.length) (j := s244.1) (s := 1) (by kernel_rfl) (fun w hs => (hs.view 0 rfl)) rfl hx264 rfl ?_
              refine gn hm [125, 122, 117, 115, 114, 113, 17, 14, 0, 4] [] ?_
              refine ha1 13 ?_
              refine hi (fun γ0 δ hm => ?_)
              refine JG_loadq (by kernel_rfl) (t := 3) (d := a0_0) (Int.toNat s244.1 * 1) 0 (by kernel_rfl) (cs := [.int .i64 x263]) (v := .int .i64 x263) (fun w hs => (hs.view 0 rfl).flatq hx264) (by kernel_rfl) rfl ?_
              refine gn hm [126, 122, 117, 115, 114, 113, 17, 14, 0, 4] [] ?_
              refine ha1 14 ?_
              refine hi (fun γ0 δ hm => ?_)
              refine JG_index (by kernel_rfl) (d := a0_0) (m := s244.2.length) (j := s244.1) (s := 1) (by kernel_rfl) (fun w hs => (hs.view 0 rfl)) rfl hx267 rfl ?_
              refine gn hm [127, 126, 122, 117, 115, 17, 14, 0, 4] [] ?_
              refine ha1 15 ?_
              refine hi (fun γ0 δ hm => ?_)
              refine JG_storeq (α := Int) (d := a0_0) (vs := [.int .i64 x260]) (j := s244.1) (x' := x260) (by kernel_rfl) 0 (by kernel_rfl) hx267 (Rc := []) (Rr := []) rfl (by kernel_rfl) (fun w c F Fs ho _ _ => own_flat_set (by kernel_rfl) ho) hm270 (sl' := [(127, .q a0_0 (Int.toNat s244.1 * 1)), (126, vi x263), (122, vi x260), (117, vi (w64 (s244.1 - 1))), (115, .v (.slice a0_0 s244.2.length c0_0)), (17, vi s244.1), (14, vi y242.1), (0, .v (.slice a0_0 s244.2.length c0_0)), (4, .v (.func (.func 35) #[] #[.pointer (some ⟨g4_0, 0, none⟩), .pointer (some ⟨g4_1, 0, none⟩), .pointer (some ⟨g4_2, 0, none⟩)]))]) (by kernel_rfl) ?_
              refine KG_eqE (sl' := [(127, .q a0_0 (Int.toNat s244.1 * 1)), (126, vi x263), (122, vi x260), (117, vi (w64 (s244.1 - 1))), (115, .v (.slice a0_0 l269.length c0_0)), (17, vi s244.1), (14, vi y242.1), (0, .v (.slice a0_0 l269.length c0_0)), (4, .v (.func (.func 35) #[] #[.pointer (some ⟨g4_0, 0, none⟩), .pointer (some ⟨g4_1, 0, none⟩), .pointer (some ⟨g4_2, 0, none⟩)]))]) (bx' := []) (by simp only [hl272]) rfl ?_
              refine gn hm [126, 117, 115, 17, 14, 0, 4] [] ?_
              refine ha1 16 ?_
              refine hi (fun γ0 δ hm => ?_)
              refine JG_index (by kernel_rfl) (d := a0_0) (m := l269.length) (j := (w64 (s244.1 - 1))) (s := 1) (by kernel_rfl) (fun w hs => (hs.view 0 rfl)) rfl hx274 rfl ?_
              refine gn hm [128, 126, 17, 14, 0, 4] [] ?_
              refine ha1 17 ?_
              refine hi (fun γ0 δ hm => ?_)
              refine JG_storeq (α := Int) (d := a0_0) (vs := [.int .i64 x263]) (j := (w64 (s244.1 - 1))) (x' := x263) (by kernel_rfl) 0 (by kernel_rfl) hx274 (Rc := []) (Rr := []) rfl (by kernel_rfl) (fun w c F Fs ho _ _ => own_flat_set (by kernel_rfl) ho) hm277 (sl' := [(128, .q a0_0 (Int.toNat (w64 (s244.1 - 1)) * 1)), (126, vi x263), (17, vi s244.1), (14, vi y242.1), (0, .v (.slice a0_0 l269.length c0_0)), (4, .v (.func (.func 35) #[] #[.pointer (some ⟨g4_0, 0, none⟩), .pointer (some ⟨g4_1, 0, none⟩), .pointer (some ⟨g4_2, 0, none⟩)]))]) (by kernel_rfl) ?_
              refine KG_eqE (sl' := [(128, .q a0_0 (Int.toNat (w64 (s244.1 - 1)) * 1)), (126, vi x263), (17, vi s244.1), (14, vi y242.1), (0, .v (.slice a0_0 l276.length c0_0)), (4, .v (.func (.func 35) #[] #[.pointer (some ⟨g4_0, 0, none⟩), .pointer (some ⟨g4_1, 0, none⟩), .pointer (some ⟨g4_2, 0, none⟩)]))]) (bx' := []) (by simp only [hl279]) rfl ?_
              refine gn hm [17, 14, 0, 4] [] ?_
              exact hd () [17, 14, 0, 4] [0] 0
            · refine hi (fun γ0 δ hm => ?_)
              refine JG_index (by kernel_rfl) (d := a0_0) (m := s244.2.length) (j := s244.1) (s := 1) (by kernel_rfl) (fun w hs => (hs.view 0 rfl)) rfl hx264 rfl ?_
              refine gn hm [125, 121, 117, 115, 114, 113, 17, 14, 0, 4] [] ?_
              refine ha2 9 13 ?_ ?_
              · refine hi (fun γ0 δ hm => ?_)
                refine JG_loadq (by kernel_rfl) (t := 3) (d := a0_0) (Int.toNat (w64 (s244.1 - 1)) * 1) 0 (by kernel_rfl) (cs := [.int .i64 x260]) (v := .int .i64 x260) (fun w hs => (hs.view 0 rfl).flatq hx261) (by kernel_rfl) rfl ?_
                refine gn hm [122, 125, 117, 115, 114, 113, 17, 14, 0, 4] [] ?_
                refine ha1 13 ?_
                refine hi (fun γ0 δ hm => ?_)
                refine JG_loadq (by kernel_rfl) (t := 3) (d := a0_0) (Int.toNat s244.1 * 1) 0 (by kernel_rfl) (cs := [.int .i64 x263]) (v := .int .i64 x263) (fun w hs => (hs.view 0 rfl).flatq hx264) (by kernel_rfl) rfl ?_
                refine gn hm [126, 122, 117, 115, 114, 113, 17, 14, 0, 4] [] ?_
                refine ha1 14 ?_
                refine hi (fun γ0 δ hm => ?_)
                refine JG_index (by kernel_rfl) (d := a0_0) (m := s244.2.length) (j := s244.1) (s := 1) (by kernel_rfl) (fun w hs => (hs.view 0 rfl)) rfl hx267 rfl ?_
                refine gn hm [127, 126, 122, 117, 115, 17, 14, 0, 4] [] ?_
                refine ha1 15 ?_
                refine hi (fun γ0 δ hm => ?_)
                refine JG_storeq (α := Int) (d := a0_0) (vs := [.int .i64 x260]) (j := s244.1) (x' := x260) (by kernel_rfl) 0 (by kernel_rfl) hx267 (Rc := []) (Rr := []) rfl (by kernel_rfl) (fun w c F Fs ho _ _ => own_flat_set (by kernel_rfl) ho) hm270 (sl' := [(127, .q a0_0 (Int.toNat s244.1 * 1)), (126, vi x263), (122, vi x260), (117, vi (w64 (s244.1 - 1))), (115, .v (.slice a0_0 s244.2.length c0_0)), (17, vi s244.1), (14, vi y242.1), (0, .v (.slice a0_0 s244.2.length c0_0)), (4, .v (.func (.func 35) #[] #[.pointer (some ⟨g4_0, 0, none⟩), .pointer (some ⟨g4_1, 0, none⟩), .pointer (some ⟨g4_2, 0, none⟩)]))]) (by kernel_rfl) ?_
                refine KG_eqE (sl' := [(127, .q a0_0 (Int.toNat s244.1 * 1)), (126, vi x263), (122, vi x260), (117, vi (w64 (s244.1 - 1))), (115, .v (.slice a0_0 l269.length c0_0)), (17, vi s244.1), (14, vi y242.1), (0, .v (.slice a0_0 l269.length c0_0)), (4, .v (.func (.func 35) #[] #[.pointer (some ⟨g4_0, 0, none⟩), .pointer (some ⟨g4_1, 0, none⟩), .pointer (some ⟨g4_2, 0, none⟩)]))]) (bx' := []) (by simp only [hl272]) rfl ?_
                refine gn hm [126, 117, 115, 17, 14, 0, 4] [] ?_
                refine ha1 16 ?_
                refine hi (fun γ0 δ hm => ?_)
                refine JG_index (by kernel_rfl) (d := a0_0) (m := l269.length) (j := (w64 (s244.1 - 1))) (s := 1) (by kernel_rfl) (fun w hs => (hs.view 0 rfl)) rfl hx274 rfl ?_
                refine gn hm [128, 126, 17, 14, 0, 4] [] ?_
                refine ha1 17 ?_
                refine hi (fun γ0 δ hm => ?_)
                refine JG_storeq (α := Int) (d := a0_0) (vs := [.int .i64 x263]) (j := (w64 (s244.1 - 1))) (x' := x263) (by kernel_rfl) 0 (by kernel_rfl) hx274 (Rc := []) (Rr := []) rfl (by kernel_rfl) (fun w c F Fs ho _ _ => own_flat_set (by kernel_rfl) ho) hm277 (sl' := [(128, .q a0_0 (Int.toNat (w64 (s244.1 - 1)) * 1)), (126, vi x263), (17, vi s244.1), (14, vi y242.1), (0, .v (.slice a0_0 l269.length c0_0)), (4, .v (.func (.func 35) #[] #[.pointer (some ⟨g4_0, 0, none⟩), .pointer (some ⟨g4_1, 0, none⟩), .pointer (some ⟨g4_2, 0, none⟩)]))]) (by kernel_rfl) ?_
                refine KG_eqE (sl' := [(128, .q a0_0 (Int.toNat (w64 (s244.1 - 1)) * 1)), (126, vi x263), (17, vi s244.1), (14, vi y242.1), (0, .v (.slice a0_0 l276.length c0_0)), (4, .v (.func (.func 35) #[] #[.pointer (some ⟨g4_0, 0, none⟩), .pointer (some ⟨g4_1, 0, none⟩), .pointer (some ⟨g4_2, 0, none⟩)]))]) (bx' := []) (by simp only [hl279]) rfl ?_
                refine gn hm [17, 14, 0, 4] [] ?_
                exact hd () [17, 14, 0, 4] [0] 0
              · refine hi (fun γ0 δ hm => ?_)
                refine JG_loadq (by kernel_rfl) (t := 3) (d := a0_0) (Int.toNat s244.1 * 1) 0 (by kernel_rfl) (cs := [.int .i64 x263]) (v := .int .i64 x263) (fun w hs => (hs.view 0 rfl).flatq hx264) (by kernel_rfl) rfl ?_
                refine gn hm [126, 121, 117, 115, 114, 113, 17, 14, 0, 4] [] ?_
                refine ha1 9 ?_
                refine hi (fun γ0 δ hm => ?_)
                refine JG_loadq (by kernel_rfl) (t := 3) (d := a0_0) (Int.toNat (w64 (s244.1 - 1)) * 1) 0 (by kernel_rfl) (cs := [.int .i64 x260]) (v := .int .i64 x260) (fun w hs => (hs.view 0 rfl).flatq hx261) (by kernel_rfl) rfl ?_
                refine gn hm [122, 126, 117, 115, 114, 113, 17, 14, 0, 4] [] ?_
                refine ha1 14 ?_
                refine hi (fun γ0 δ hm => ?_)
                refine JG_index (by kernel_rfl) (d := a0_0) (m := s244.2.length) (j := s244.1) (s := 1) (by kernel_rfl) (fun w hs => (hs.view 0 rfl)) rfl hx267 rfl ?_
                refine gn hm [127, 122, 126, 117, 115, 17, 14, 0, 4] [] ?_
                refine ha1 15 ?_
                refine hi (fun γ0 δ hm => ?_)
                refine JG_storeq (α := Int) (d := a0_0) (vs := [.int .i64 x260]) (j := s244.1) (x' := x260) (by kernel_rfl) 0 (by kernel_rfl) hx267 (Rc := []) (Rr := []) rfl (by kernel_rfl) (fun w c F Fs ho _ _ => own_flat_set (by kernel_rfl) ho) hm270 (sl' := [(127, .q a0_0 (Int.toNat s244.1 * 1)), (122, vi x260), (126, vi x263), (117, vi (w64 (s244.1 - 1))), (115, .v (.slice a0_0 s244.2.length c0_0)), (17, vi s244.1), (14, vi y242.1), (0, .v (.slice a0_0 s244.2.length c0_0)), (4, .v (.func (.func 35) #[] #[.pointer (some ⟨g4_0, 0, none⟩), .pointer (some ⟨g4_1, 0, none⟩), .pointer (some ⟨g4_2, 0, none⟩)]))]) (by kernel_rfl) ?_
                refine KG_eqE (sl' := [(127, .q a0_0 (Int.toNat s244.1 * 1)), (122, vi x260), (126, vi x263), (117, vi (w64 (s244.1 - 1))), (115, .v (.slice a0_0 l269.length c0_0)), (17, vi s244.1), (14, vi y242.1), (0, .v (.slice a0_0 l269.length c0_0)), (4, .v (.func (.func 35) #[] #[.pointer (some ⟨g4_0, 0, none⟩), .pointer (some ⟨g4_1, 0, none⟩), .pointer (some ⟨g4_2, 0, none⟩)]))]) (bx' := []) (by simp only [hl272]) rfl ?_
                refine gn hm [126, 117, 115, 17, 14, 0, 4] [] ?_
                refine ha1 16 ?_
                refine hi (fun γ0 δ hm => ?_)
                refine JG_index (by kernel_rfl) (d := a0_0) (m := l269.length) (j := (w64 (s244.1 - 1))) (s := 1) (by kernel_rfl) (fun w hs => (hs.view 0 rfl)) rfl hx274 rfl ?_
                refine gn hm [128, 126, 17, 14, 0, 4] [] ?_
                refine ha1 17 ?_
                refine hi (fun γ0 δ hm => ?_)
                refine JG_storeq (α := Int) (d := a0_0) (vs := [.int .i64 x263]) (j := (w64 (s244.1 - 1))) (x' := x263) (by kernel_rfl) 0 (by kernel_rfl) hx274 (Rc := []) (Rr := []) rfl (by kernel_rfl) (fun w c F Fs ho _ _ => own_flat_set (by kernel_rfl) ho) hm277 (sl' := [(128, .q a0_0 (Int.toNat (w64 (s244.1 - 1)) * 1)), (126, vi x263), (17, vi s244.1), (14, vi y242.1), (0, .v (.slice a0_0 l269.length c0_0)), (4, .v (.func (.func 35) #[] #[.pointer (some ⟨g4_0, 0, none⟩), .pointer (some ⟨g4_1, 0, none⟩), .pointer (some ⟨g4_2, 0, none⟩)]))]) (by kernel_rfl) ?_
                refine KG_eqE (sl' := [(128, .q a0_0 (Int.toNat (w64 (s244.1 - 1)) * 1)), (126, vi x263), (17, vi s244.1), (14, vi y242.1), (0, .v (.slice a0_0 l276.length c0_0)), (4, .v (.func (.func 35) #[] #[.pointer (some ⟨g4_0, 0, none⟩), .pointer (some ⟨g4_1, 0, none⟩), .pointer (some ⟨g4_2, 0, none⟩)]))]) (bx' := []) (by simp only [hl279]) rfl ?_
                refine gn hm [17, 14, 0, 4] [] ?_
                exact hd () [17, 14, 0, 4] [0] 0
          · refine hi (fun γ0 δ hm => ?_)
            refine JG_index (by kernel_rfl) (d := a0_0) (m := s244.2.length) (j := s244.1) (s := 1) (by kernel_rfl) (fun w hs => (hs.view 0 rfl)) rfl hx264 rfl ?_
            refine gn hm [125, 120, 118, 117, 115, 114, 113, 17, 14, 0, 4] [] ?_
            refine ha2 8 13 ?_ ?_
            · refine hi (fun γ0 δ hm => ?_)
              refine JG_index (by kernel_rfl) (d := a0_0) (m := s244.2.length) (j := (w64 (s244.1 - 1))) (s := 1) (by kernel_rfl) (fun w hs => (hs.view 0 rfl)) rfl hx261 rfl ?_
              refine gn hm [121, 125, 117, 115, 114, 113, 17, 14, 0, 4] [] ?_
              refine ha2 9 13 ?_ ?_
              · refine hi (fun γ0 δ hm => ?_)
                refine JG_loadq (by kernel_rfl) (t := 3) (d := a0_0) (Int.toNat (w64 (s244.1 - 1)) * 1) 0 (by kernel_rfl) (cs := [.int .i64 x260]) (v := .int .i64 x260) (fun w hs => (hs.view 0 rfl).flatq hx261) (by kernel_rfl) rfl ?_
                refine gn hm [122, 125, 117, 115, 114, 113, 17, 14, 0, 4] [] ?_
                refine ha1 13 ?_
                refine hi (fun γ0 δ hm => ?_)
                refine JG_loadq (by kernel_rfl) (t := 3) (d := a0_0) (Int.toNat s244.1 * 1) 0 (by kernel_rfl) (cs := [.int .i64 x263]) (v := .int .i64 x263) (fun w hs => (hs.view 0 rfl).flatq hx264) (by kernel_rfl) rfl ?_
                refine gn hm [126, 122, 117, 115, 114, 113, 17, 14, 0, 4] [] ?_
                refine ha1 14 ?_
                refine hi (fun γ0 δ hm => ?_)
                refine JG_index (by kernel_rfl) (d := a0_0) (m := s244.2.length) (j := s244.1) (s := 1) (by kernel_rfl) (fun w hs => (hs.view 0 rfl)) rfl hx267 rfl ?_
                refine gn hm [127, 126, 122, 117, 115, 17, 14, 0, 4] [] ?_
                refine ha1 15 ?_
                refine hi (fun γ0 δ hm => ?_)
                refine JG_storeq (α := Int) (d := a0_0) (vs := [.int .i64 x260]) (j := s244.1) (x' := x260) (by kernel_rfl) 0 (by kernel_rfl) hx267 (Rc := []) (Rr := []) rfl (by kernel_rfl) (fun w c F Fs ho _ _ => own_flat_set (by kernel_rfl) ho) hm270 (sl' := [(127, .q a0_0 (Int.toNat s244.1 * 1)), (126, vi x263), (122, vi x260), (117, vi (w64 (s244.1 - 1))), (115, .v (.slice a0_0 s244.2.length c0_0)), (17, vi s244.1), (14, vi y242.1), (0, .v (.slice a0_0 s244.2.length c0_0)), (4, .v (.func (.func 35) #[] #[.pointer (some ⟨g4_0, 0, none⟩), .pointer (some ⟨g4_1, 0, none⟩), .pointer (some ⟨g4_2, 0, none⟩)]))]) (by kernel_rfl) ?_
                refine KG_eqE (sl' := [(127, .q a0_0 (Int.toNat s244.1 * 1)), (126, vi x263), (122, vi x260), (117, vi (w64 (s244.1 - 1))), (115, .v (.slice a0_0 l269.length c0_0)), (17, vi s244.1), (14, vi y242.1), (0, .v (.slice a0_0 l269.length c0_0)), (4, .v (.func (.func 35) #[] #[.pointer (some ⟨g4_0, 0, none⟩), .pointer (some ⟨g4_1, 0, none⟩), .pointer (some ⟨g4_2, 0, none⟩)]))]) (bx' := []) (by simp only [hl272]) rfl ?_
                refine gn hm [126, 117, 115, 17, 14, 0, 4] [] ?_
                refine ha1 16 ?_
                refine hi (fun γ0 δ hm => ?_)
                refine JG_index (by kernel_rfl) (d := a0_0) (m := l269.length) (j := (w64 (s244.1 - 1))) (s := 1) (by kernel_rfl) (fun w hs => (hs.view 0 rfl)) rfl hx274 rfl ?_
                refine gn hm [128, 126, 17, 14, 0, 4] [] ?_
                refine ha1 17 ?_
                refine hi (fun γ0 δ hm => ?_)
                refine JG_storeq (α := Int) (d := a0_0) (vs := [.int .i64 x263]) (j := (w64 (s244.1 - 1))) (x' := x263) (by kernel_rfl) 0 (by kernel_rfl) hx274 (Rc := []) (Rr := []) rfl (by kernel_rfl) (fun w c F Fs ho _ _ => own_flat_set (by kernel_rfl) ho) hm277 (sl' := [(128, .q a0_0 (Int.toNat (w64 (s244.1 - 1)) * 1)), (126, vi x263), (17, vi s244.1), (14, vi y242.1), (0, .v (.slice a0_0 l269.length c0_0)), (4, .v (.func (.func 35) #[] #[.pointer (some ⟨g4_0, 0, none⟩), .pointer (some ⟨g4_1, 0, none⟩), .pointer (some ⟨g4_2, 0, none⟩)]))]) (by kernel_rfl) ?_
                refine KG_eqE (sl' := [(128, .q a0_0 (Int.toNat (w64 (s244.1 - 1)) * 1)), (126, vi x263), (17, vi s244.1), (14, vi y242.1), (0, .v (.slice a0_0 l276.length c0_0)), (4, .v (.func (.func 35) #[] #[.pointer (some ⟨g4_0, 0, none⟩), .pointer (some ⟨g4_1, 0, none⟩), .pointer (some ⟨g4_2, 0, none⟩)]))]) (bx' := []) (by simp only [hl279]) rfl ?_
                refine gn hm [17, 14, 0, 4] [] ?_
                exact hd () [17, 14, 0, 4] [0] 0
              · refine hi (fun γ0 δ hm => ?_)
                refine JG_loadq (by kernel_rfl) (t := 3) (d := a0_0) (Int.toNat s244.1 * 1) 0 (by kernel_rfl) (cs := [.int .i64 x263]) (v := .int .i64 x263) (fun w hs => (hs.view 0 rfl).flatq hx264) (by kernel_rfl) rfl ?_
                refine gn hm [126, 121, 117, 115, 114, 113, 17, 14, 0, 4] [] ?_
                refine ha1 9 ?_
                refine hi (fun γ0 δ hm => ?_)
                refine JG_loadq (by kernel_rfl) (t := 3) (d := a0_0) (Int.toNat (w64 (s244.1 - 1)) * 1) 0 (by kernel_rfl) (cs := [.int .i64 x260]) (v := .int .i64 x260) (fun w hs => (hs.view 0 rfl).flatq hx261) (by kernel_rfl) rfl ?_
                refine gn hm [122, 126, 117, 115, 114, 113, 17, 14, 0, 4] [] ?_
                refine ha1 14 ?_
                refine hi (fun γ0 δ hm => ?_)
                refine JG_index (by kernel_rfl) (d := a0_0) (m := s244.2.length) (j := s244.1) (s := 1) (by kernel_rfl) (fun w hs => (hs.view 0 rfl)) rfl hx267 rfl ?_
                refine gn hm [127, 122, 126, 117, 115, 17, 14, 0, 4] [] ?_
                refine ha1 15 ?_
                refine hi (fun γ0 δ hm => ?_)
                refine JG_storeq (α := Int) (d := a0_0) (vs := [.int .i64 x260]) (j := s244.1) (x' := x260) (by kernel_rfl) 0 (by kernel_rfl) hx267 (Rc := []) (Rr := []) rfl (by kernel_rfl) (fun w c F Fs ho _ _ => own_flat_set (by kernel_rfl) ho) hm270 (sl' := [(127, .q a0_0 (Int.toNat s244.1 * 1)), (122, vi x260), (126, vi x263), (117, vi (w64 (s244.1 - 1))), (115, .v (.slice a0_0 s244.2.length c0_0)), (17, vi s244.1), (14, vi y242.1), (0, .v (.slice a0_0 s244.2.length c0_0)), (4, .v (.func (.func 35) #[] #[.pointer (some ⟨g4_0, 0, none⟩), .pointer (some ⟨g4_1, 0, none⟩), .pointer (some ⟨g4_2, 0, none⟩)]))]) (by kernel_rfl) ?_
                refine KG_eqE (sl' := [(127, .q a0_0 (Int.toNat s244.1 * 1)), (122, vi x260), (126, vi x263), (117, vi (w64 (s244.1 - 1))), (115, .v (.slice a0_0 l269.length c0_0)), (17, vi s244.1), (14, vi y242.1), (0, .v (.slice a0_0 l269.length c0_0)), (4, .v (.func (.func 35) #[] #[.pointer (some ⟨g4_0, 0, none⟩), .pointer (some ⟨g4_1, 0, none⟩), .pointer (some ⟨g4_2, 0, none⟩)]))]) (bx' := []) (by simp only [hl272]) rfl ?_
                refine gn hm [126, 117, 115, 17, 14, 0, 4] [] ?_
                refine ha1 16 ?_
                refine hi (fun γ0 δ hm => ?_)
                refine JG_index (by kernel_rfl) (d := a0_0) (m := l269.length) (j := (w64 (s244.1 - 1))) (s := 1) (by kernel_rfl) (fun w hs => (hs.view 0 rfl)) rfl hx274 rfl ?_
                refine gn hm [128, 126, 17, 14, 0, 4] [] ?_
                refine ha1 17 ?_
                refine hi (fun γ0 δ hm => ?_)
                refine JG_storeq (α := Int) (d := a0_0) (vs := [.int .i64 x263]) (j := (w64 (s244.1 - 1))) (x' := x263) (by kernel_rfl) 0 (by kernel_rfl) hx274 (Rc := []) (Rr := []) rfl (by kernel_rfl) (fun w c F Fs ho _ _ => own_flat_set (by kernel_rfl) ho) hm277 (sl' := [(128, .q a0_0 (Int.toNat (w64 (s244.1 - 1)) * 1)), (126, vi x263), (17, vi s244.1), (14, vi y242.1), (0, .v (.slice a0_0 l269.length c0_0)), (4, .v (.func (.func 35) #[] #[.pointer (some ⟨g4_0, 0, none⟩), .pointer (some ⟨g4_1, 0, none⟩), .pointer (some ⟨g4_2, 0, none⟩)]))]) (by kernel_rfl) ?_
                refine KG_eqE (sl' := [(128, .q a0_0 (Int.toNat (w64 (s244.1 - 1)) * 1)), (126, vi x263), (17, vi s244.1), (14, vi y242.1), (0, .v (.slice a0_0 l276.length c0_0)), (4, .v (.func (.func 35) #[] #[.pointer (some ⟨g4_0, 0, none⟩), .pointer (some ⟨g4_1, 0, none⟩), .pointer (some ⟨g4_2, 0, none⟩)]))]) (bx' := []) (by simp only [hl279]) rfl ?_
                refine gn hm [17, 14, 0, 4] [] ?_
                exact hd () [17, 14, 0, 4] [0] 0
            · refine hi (fun γ0 δ hm => ?_)
              refine JG_loadq (by kernel_rfl) (t := 3) (d := a0_0) (Int.toNat s244.1 * 1) 0 (by kernel_rfl) (cs := [.int .i64 x263]) (v := .int .i64 x263) (fun w hs => (hs.view 0 rfl).flatq hx264) (by kernel_rfl) rfl ?_
              refine gn hm [126, 120, 118, 117, 115, 114, 113, 17, 14, 0, 4] [] ?_
              refine ha1 8 ?_
              refine hi (fun γ0 δ hm => ?_)
              refine JG_index (by kernel_rfl) (d := a0_0) (m := s244.2.length) (j := (w64 (s244.1 - 1))) (s := 1) (by kernel_rfl) (fun w hs => (hs.view 0 rfl)) rfl hx261 rfl ?_
              refine gn hm [121, 126, 117, 115, 114, 113, 17, 14, 0, 4] [] ?_
              refine ha1 9 ?_
              refine hi (fun γ0 δ hm => ?_)
              refine JG_loadq (by kernel_rfl) (t := 3) (d := a0_0) (Int.toNat (w64 (s244.1 - 1)) * 1) 0 (by kernel_rfl) (cs := [.int .i64 x260]) (v := .int .i64 x260) (fun w hs => (hs.view 0 rfl).flatq hx261) (by kernel_rfl) rfl ?_
              refine gn hm [122, 126, 117, 115, 114, 113, 17, 14, 0, 4] [] ?_
              refine ha1 14 ?_
              refine hi (fun γ0 δ hm => ?_)
              refine JG_index (by kernel_rfl) (d := a0_0) (m := s244.2.length) (j := s244.1) (s := 1) (by kernel_rfl) (fun w hs => (hs.view 0 rfl)) rfl hx267 rfl ?_
              refine gn hm [127, 122, 126, 117, 115, 17, 14, 0, 4] [] ?_
              refine ha1 15 ?_
              refine hi (fun γ0 δ hm => ?_)
              refine JG_storeq (α := Int) (d := a0_0) (vs := [.int .i64 x260]) (j := s244.1) (x' := x260) (by kernel_rfl) 0 (by kernel_rfl) hx267 (Rc := []) (Rr := []) rfl (by kernel_rfl) (fun w c F Fs ho _ _ => own_flat_set (by kernel_rfl) ho) hm270 (sl' := [(127, .q a0_0 (Int.toNat s244.1 * 1)), (122, vi x260), (126, vi x263), (117, vi (w64 (s244.1 - 1))), (115, .v (.slice a0_0 s244.2.length c0_0)), (17, vi s244.1), (14, vi y242.1), (0, .v (.slice a0_0 s244.2.length c0_0)), (4, .v (.func (.func 35) #[] #[.pointer (some ⟨g4_0, 0, none⟩), .pointer (some ⟨g4_1, 0, none⟩), .pointer (some ⟨g4_2, 0, none⟩)]))]) (by kernel_rfl) ?_
              refine KG_eqE (sl' := [(127, .q a0_0 (Int.toNat s244.1 * 1)), (122, vi x260), (126, vi x263), (117, vi (w64 (s244.1 - 1))), (115, .v (.slice a0_0 l269.length c0_0)), (17, vi s244.1), (14, vi y242.1), (0, .v (.slice a0_0 l269.length c0_0)), (4, .v (.func (.func 35) #[] #[.pointer (some ⟨g4_0, 0, none⟩), .pointer (some ⟨g4_1, 0, none⟩), .pointer (some ⟨g4_2, 0, none⟩)]))]) (bx' := []) (by simp only [hl272]) rfl ?_
              refine gn hm [126, 117, 115, 17, 14, 0, 4] [] ?_
              refine ha1 16 ?_
              refine hi (fun γ0 δ hm => ?_)
              refine JG_index (by kernel_rfl) (d := a0_0) (m := l269.length) (j := (w64 (s244.1 - 1))) (s := 1) (by kernel_rfl) (fun w hs => (hs.view 0 rfl)) rfl hx274 rfl ?_
              refine gn hm [128, 126, 17, 14, 0, 4] [] ?_
              refine ha1 17 ?_
              refine hi (fun γ0 δ hm => ?_)
              refine JG_storeq (α := Int) (d := a0_0) (vs := [.int .i64 x263]) (j := (w64 (s244.1 - 1))) (x' := x263) (by kernel_rfl) 0 (by kernel_rfl) hx274 (Rc := []) (Rr := []) rfl (by kernel_rfl) (fun w c F Fs ho _ _ => own_flat_set (by kernel_rfl) ho) hm277 (sl' := [(128, .q a0_0 (Int.toNat (w64 (s244.1 - 1)) * 1)), (126, vi x263), (17, vi s244.1), (14, vi y242.1), (0, .v (.slice a0_0 l269.length c0_0)), (4, .v (.func (.func 35) #[] #[.pointer (some ⟨g4_0, 0, none⟩), .pointer (some ⟨g4_1, 0, none⟩), .pointer (some ⟨g4_2, 0, none⟩)]))]) (by kernel_rfl) ?_
              refine KG_eqE (sl' := [(128, .q a0_0 (Int.toNat (w64 (s244.1 - 1)) * 1)), (126, vi x263), (17, vi s244.1), (14, vi y242.1), (0, .v (.slice a0_0 l276.length c0_0)), (4, .v (.func (.func 35) #[] #[.pointer (some ⟨g4_0, 0, none⟩), .pointer (some ⟨g4_1, 0, none⟩), .pointer (some ⟨g4_2, 0, none⟩)]))]) (bx' := []) (by simp only [hl279]) rfl ?_
              refine gn hm [17, 14, 0, 4] [] ?_
              exact hd () [17, 14, 0, 4] [0] 0
        refine bn (nt (qr (oN 3 [(17, vi (w64 (s244.1 - 1)))] [14, 0, 4] ?_)))
        exact oe (ct h278 () [17, 14, 0, 4] [0] 0)
      refine qx (nx (nx (bh ?_)))
      have h281 := leafB hd253 h259 h249
      exact mp (s244.2, ()) h281 [0, 4] [0] 0
    have h256 := (congrFun hk251 _).symm.trans h256p
    refine nt (qe (nr (rt [] (fun γ w hs => ?_))))
    rw [← sI h256]
    exact hs.turned (is := [0]) rfl
  refine qk (nt (qs (qr (oN 7 [(18, vi (w64 (Int.fdiv (wu64 (w64 (x1 + x3))) 2)))] [0, 1, 2, 3, 4] ?_))))
  refine oe (nt (qs (qr (oN 4 [(19, vi (w64 ((w64 (Int.fdiv (wu64 (w64 (x1 + x3))) 2)) + x2)))] [18, 0, 1, 2, 3, 4] ?_))))
  refine oe (nt (qs (qr (oN 2 [] [19, 18, 0, 1, 2, 3, 4] ?_))))
  refine oe (nt (qs (qs (qr (oN 3 [(140, vb (decide (x2 > (w64 (Int.fdiv (wu64 (w64 (x1 + x3))) 2)))))] [19, 18, 0, 1, 2, 3, 4] ?_)))))
  refine oe (nt ?_)
  obtain ⟨k302, hk303, h416⟩ := jS h230
  refine JC_cutP (τ := (Int × Int) × (Unit)) (fun y => k302 y.1 = some r) (fun y301 => [(19, vi (w64 ((w64 (Int.fdiv (wu64 (w64 (x1 + x3))) 2)) + x2))), (18, vi (w64 (Int.fdiv (wu64 (w64 (x1 + x3))) 2))), (0, .v (.slice a0_0 x0.length c0_0)), (1, vi x1), (2, vi x2), (3, vi x3), (4, .v (.func (.func 35) #[] #[.pointer (some ⟨g4_0, 0, none⟩), .pointer (some ⟨g4_1, 0, none⟩), .pointer (some ⟨g4_2, 0, none⟩)])), (21, vi y301.1.1), (20, vi y301.1.2)]) (fun y301 => []) (fun y301 => [SlRes e0_0 x0 a0_0 c0_0]) ?_ (fun y301 h304p => ?_)
  · refine cC h416 (fun h418 => ?_) (fun h419 => ?_)
    · refine qs (qr (oN 4 [(20, vi (w64 ((w64 ((w64 (Int.fdiv (wu64 (w64 (x1 + x3))) 2)) + x2)) - x3)))] [19, 18, 0, 1, 2, 3, 4] ?_))
      refine oe (nt (qr (oN 2 [(21, vi (w64 (Int.fdiv (wu64 (w64 (x1 + x3))) 2)))] [20, 19, 18, 0, 1, 2, 3, 4] ?_)))
      exact oe (mp ((w64 (Int.fdiv (wu64 (w64 (x1 + x3))) 2), w64 ((w64 ((w64 (Int.fdiv (wu64 (w64 (x1 + x3))) 2)) + x2)) - x3)), ()) h418 [19, 18, 0, 1, 2, 3, 4, 21, 20] [0] 0)
    refine qs (qr (oN 2 [(20, vi x1)] [19, 18, 0, 1, 2, 3, 4] ?_))
    refine oe (nt (qr (oN 2 [(21, vi x2)] [20, 19, 18, 0, 1, 2, 3, 4] ?_)))
    exact oe (mp ((x2, x1), ()) h419 [19, 18, 0, 1, 2, 3, 4, 21, 20] [0] 0)
  have h304 := (congrFun hk303 _).symm.trans h304p
  refine nt (qs (qr (oN 3 [(22, vi (w64 ((w64 ((w64 (Int.fdiv (wu64 (w64 (x1 + x3))) 2)) + x2)) - 1)))] [19, 18, 0, 1, 2, 3, 4, 21, 20] ?_)))
  refine oe (nt (qs ?_))
  obtain ⟨r308, hL309, h310⟩ := bS h304
  obtain ⟨k311, hk312, h310⟩ := brkS h310
  refine JC_cutP (τ := (Int) × (Unit)) (fun y => k311 y.1 = some r) (fun y316 => [(19, vi (w64 ((w64 (Int.fdiv (wu64 (w64 (x1 + x3))) 2)) + x2))), (18, vi (w64 (Int.fdiv (wu64 (w64 (x1 + x3))) 2))), (0, .v (.slice a0_0 x0.length c0_0)), (1, vi x1), (2, vi x2), (3, vi x3), (4, .v (.func (.func 35) #[] #[.pointer (some ⟨g4_0, 0, none⟩), .pointer (some ⟨g4_1, 0, none⟩), .pointer (some ⟨g4_2, 0, none⟩)])), (20, vi y316.1)]) (fun y316 => []) (fun y316 => [SlRes e0_0 x0 a0_0 c0_0]) ?_ (fun y316 h317p => ?_)
  · refine qb (lp Unit hL309 (fun s305 y306 => [(22, vi (w64 ((w64 ((w64 (Int.fdiv (wu64 (w64 (x1 + x3))) 2)) + x2)) - 1))), (19, vi (w64 ((w64 (Int.fdiv (wu64 (w64 (x1 + x3))) 2)) + x2))), (18, vi (w64 (Int.fdiv (wu64 (w64 (x1 + x3))) 2))), (0, .v (.slice a0_0 x0.length c0_0)), (1, vi x1), (2, vi x2), (3, vi x3), (4, .v (.func (.func 35) #[] #[.pointer (some ⟨g4_0, 0, none⟩), .pointer (some ⟨g4_1, 0, none⟩), .pointer (some ⟨g4_2, 0, none⟩)])), (21, vi s305.1), (20, vi s305.2)]) (fun s305 y306 => []) (fun s305 y306 => [SlRes e0_0 x0 a0_0 c0_0]) () [22, 19, 18, 0, 1, 2, 3, 4, 21, 20] [0] 0 (fun s305 y306 t307 h313 hd314 => ?_))
    refine qs (qs (qr (oN 3 [(151, vb (decide (s305.2 < s305.1)))] [22, 19, 18, 0, 1, 2, 3, 4, 21, 20] ?_)))
    refine oe (nt (cC h313 (fun h400 => ?_) (fun h401 => ?_)))
    · refine qk (nt (qb (qs (qr (oN 7 [(23, vi (w64 (Int.fdiv (wu64 (w64 (s305.2 + s305.1))) 2)))] [22, 19, 18, 0, 1, 2, 3, 4, 21, 20] ?_)))))
      refine oe (nt (qs (JC_quiet (by kernel_rfl) (by kernel_rfl) ?_)))
      refine qN 5 [(162, vi (w64 ((w64 ((w64 ((w64 (Int.fdiv (wu64 (w64 (x1 + x3))) 2)) + x2)) - 1)) - (w64 (Int.fdiv (wu64 (w64 (s305.2 + s305.1))) 2))))), (159, .v (.slice a0_0 x0.length c0_0)), (158, .v (.func (.func 35) #[] #[.pointer (some ⟨g4_0, 0, none⟩), .pointer (some ⟨g4_1, 0, none⟩), .pointer (some ⟨g4_2, 0, none⟩)]))] [23, 22, 19, 18, 0, 1, 2, 3, 4, 21, 20] ?_
      obtain ⟨x402, hx403, h404⟩ := bS h400
      refine qi 1 (fun γ w hs => (hs.view 0 rfl)) hx403 ?_
      refine ql 3 0 (.int .i64 x402) (fun γ w hs => (hs.view 0 rfl).flatq hx403) ?_
      refine qN 2 [(166, vi (w64 (Int.fdiv (wu64 (w64 (s305.2 + s305.1))) 2))), (165, .v (.slice a0_0 x0.length c0_0))] [164, 158, 23, 22, 19, 18, 0, 1, 2, 3, 4, 21, 20] ?_
      obtain ⟨x405, hx406, h407⟩ := bS h404
      refine qi 1 (fun γ w hs => (hs.view 0 rfl)) hx406 ?_
      refine ql 3 0 (.int .i64 x405) (fun γ w hs => (hs.view 0 rfl).flatq hx406) ?_
      obtain ⟨t408, h409, h410⟩ := bS h407
      refine q0 (fun γ w hs => hq w hs.kept _ _ _ h409) ?_
      refine qN 2 [(171, vb (!(decide (t408 < 0))))] [23, 22, 19, 18, 0, 1, 2, 3, 4, 21, 20] ?_
      refine qz (nt (cC h410 (fun h413 => ?_) (fun h414 => ?_)))
      · refine qr (oN 3 [(20, vi (w64 ((w64 (Int.fdiv (wu64 (w64 (s305.2 + s305.1))) 2)) + 1)))] [22, 19, 18, 0, 1, 2, 3, 4, 21] ?_)
        exact oe (bn (ct h413 () [22, 19, 18, 0, 1, 2, 3, 4, 21, 20] [0] 0))
      refine qr (oN 2 [(21, vi (w64 (Int.fdiv (wu64 (w64 (s305.2 + s305.1))) 2)))] [22, 19, 18, 0, 1, 2, 3, 4, 20] ?_)
      exact oe (bn (ct h414 () [22, 19, 18, 0, 1, 2, 3, 4, 21, 20] [0] 0))
    refine qx (nx (nx (bh ?_)))
    have h415 := leafB hd314 h401 h310
    exact mp (s305.2, ()) h415 [19, 18, 0, 1, 2, 3, 4, 20] [0] 0
  have h317 := (congrFun hk312 _).symm.trans h317p
  refine nt (qs (qr (oN 4 [(24, vi (w64 ((w64 ((w64 (Int.fdiv (wu64 (w64 (x1 + x3))) 2)) + x2)) - y316.1)))] [18, 0, 1, 2, 3, 4, 20] ?_)))
  refine oe (nt (qs (qs ?_)))
  obtain ⟨p318, hE319, h320⟩ := bS h317
  refine JC_cut (τ := Unit) (fun _ => [(0, .v (.slice a0_0 x0.length c0_0)), (1, vi x1), (2, vi x2), (3, vi x3), (4, .v (.func (.func 35) #[] #[.pointer (some ⟨g4_0, 0, none⟩), .pointer (some ⟨g4_1, 0, none⟩), .pointer (some ⟨g4_2, 0, none⟩)])), (18, vi (w64 (Int.fdiv (wu64 (w64 (x1 + x3))) 2))), (20, vi y316.1), (24, vi (w64 ((w64 ((w64 (Int.fdiv (wu64 (w64 (x1 + x3))) 2)) + x2)) - y316.1))), (185, vb p318)]) (fun _ => []) (fun _ => [SlRes e0_0 x0 a0_0 c0_0]) ?_ (fun _ => ?_)
  · refine qr (oN 4 [(181, vb (decide (y316.1 < x2)))] [24, 18, 0, 1, 2, 3, 4, 20] ?_)
    refine oS 181 hE319 (fun h322 => ?_) (fun h323 => ?_)
    · refine oN 4 [(185, vb (decide (x2 < (w64 ((w64 ((w64 (Int.fdiv (wu64 (w64 (x1 + x3))) 2)) + x2)) - y316.1)))))] [24, 18, 0, 1, 2, 3, 4, 20] ?_
      refine oe ?_
      obtain rfl := sI h322
      exact mt () [0, 1, 2, 3, 4, 18, 20, 24, 185] [0] 0
    refine oN 4 [(185, vb false)] [24, 18, 0, 1, 2, 3, 4, 20] ?_
    refine oe ?_
    obtain rfl := sI h323
    exact mt () [0, 1, 2, 3, 4, 18, 20, 24, 185] [0] 0
  refine nt ?_
  obtain ⟨k335, hk336, h387⟩ := jS h320
  refine JC_cutP (τ := ((List Int)) × (Unit)) (fun y => k335 y.1 = some r) (fun y334 => [(0, .v (.slice a0_0 y334.1.length c0_0)), (1, vi x1), (3, vi x3), (4, .v (.func (.func 35) #[] #[.pointer (some ⟨g4_0, 0, none⟩), .pointer (some ⟨g4_1, 0, none⟩), .pointer (some ⟨g4_2, 0, none⟩)])), (18, vi (w64 (Int.fdiv (wu64 (w64 (x1 + x3))) 2))), (20, vi y316.1), (24, vi (w64 ((w64 ((w64 (Int.fdiv (wu64 (w64 (x1 + x3))) 2)) + x2)) - y316.1)))]) (fun y334 => []) (fun y334 => [SlRes e0_0 y334.1 a0_0 c0_0]) ?_ (fun y334 h337p => ?_)
  · refine cC h387 (fun h389 => ?_) (fun h390 => ?_)
    · refine qr (oN 5 [(190, .v (.func (.func 35) #[] #[.pointer (some ⟨g4_0, 0, none⟩), .pointer (some ⟨g4_1, 0, none⟩), .pointer (some ⟨g4_2, 0, none⟩)])), (189, vi (w64 ((w64 ((w64 (Int.fdiv (wu64 (w64 (x1 + x3))) 2)) + x2)) - y316.1))), (188, vi x2), (187, vi y316.1), (186, .v (.slice a0_0 x0.length c0_0))] [0, 1, 3, 4, 18, 20, 24] ?_)
      obtain ⟨t391, h392, h393⟩ := bS h389
      obtain ⟨u395, hu396, h397⟩ := bS h393
      have hl398 := (sameLen_some hu396).symm
      refine JO_callMQ rfl (by kernel_rfl) (f := 45) (C := fun γ => (fun w => ∀ (q0 : Int) (q1 : Int) (r : Int), impl_Allocate_1 q0 q1 z4_0 z4_1 z4_2 = some r → Gives0 Try.prog 35 #[.int .i64 q0, .int .i64 q1, .pointer (some ⟨g4_0, 0, none⟩), .pointer (some ⟨g4_1, 0, none⟩), .pointer (some ⟨g4_2, 0, none⟩)] w (.int .i64 r))) (args := fun γ => #[.slice a0_0 x0.length c0_0, .int .i64 y316.1, .int .i64 x2, .int .i64 (w64 ((w64 ((w64 (Int.fdiv (wu64 (w64 (x1 + x3))) 2)) + x2)) - y316.1)), .func (.func 35) #[] #[.pointer (some ⟨g4_0, 0, none⟩), .pointer (some ⟨g4_1, 0, none⟩), .pointer (some ⟨g4_2, 0, none⟩)]]) (fun γ => by kernel_rfl) (x := .tuple #[]) (Rin := [SlRes e0_0 x0 a0_0 c0_0]) (Rout := [SlRes e0_0 t391 a0_0 c0_0]) (Rr := []) rfl (fun γ w hs => (by have vv := c_slices_rotateCmpFunc_int__impl_Allocate_1 (e0_0 := e0_0) (a0_0 := a0_0) (c0_0 := c0_0) (g4_0 := g4_0) (g4_1 := g4_1) (g4_2 := g4_2) (W := w) h392; exact vv)) (fun γ w hk hb => hq w hk) (sl' := [(191, .v (.tuple #[])), (190, .v (.func (.func 35) #[] #[.pointer (some ⟨g4_0, 0, none⟩), .pointer (some ⟨g4_1, 0, none⟩), .pointer (some ⟨g4_2, 0, none⟩)])), (189, vi (w64 ((w64 ((w64 (Int.fdiv (wu64 (w64 (x1 + x3))) 2)) + x2)) - y316.1))), (188, vi x2), (187, vi y316.1), (186, .v (.slice a0_0 x0.length c0_0)), (0, .v (.slice a0_0 x0.length c0_0)), (1, vi x1), (3, vi x3), (4, .v (.func (.func 35) #[] #[.pointer (some ⟨g4_0, 0, none⟩), .pointer (some ⟨g4_1, 0, none⟩), .pointer (some ⟨g4_2, 0, none⟩)])), (18, vi (w64 (Int.fdiv (wu64 (w64 (x1 + x3))) 2))), (20, vi y316.1), (24, vi (w64 ((w64 ((w64 (Int.fdiv (wu64 (w64 (x1 + x3))) 2)) + x2)) - y316.1)))]) (by kernel_rfl) ?_
      refine JO_eqE (sl' := [(191, .v (.tuple #[])), (190, .v (.func (.func 35) #[] #[.pointer (some ⟨g4_0, 0, none⟩), .pointer (some ⟨g4_1, 0, none⟩), .pointer (some ⟨g4_2, 0, none⟩)])), (189, vi (w64 ((w64 ((w64 (Int.fdiv (wu64 (w64 (x1 + x3))) 2)) + x2)) - y316.1))), (188, vi x2), (187, vi y316.1), (186, .v (.slice a0_0 t391.length c0_0)), (0, .v (.slice a0_0 t391.length c0_0)), (1, vi x1), (3, vi x3), (4, .v (.func (.func 35) #[] #[.pointer (some ⟨g4_0, 0, none⟩), .pointer (some ⟨g4_1, 0, none⟩), .pointer (some ⟨g4_2, 0, none⟩)])), (18, vi (w64 (Int.fdiv (wu64 (w64 (x1 + x3))) 2))), (20, vi y316.1), (24, vi (w64 ((w64 ((w64 (Int.fdiv (wu64 (w64 (x1 + x3))) 2)) + x2)) - y316.1)))]) (bx' := []) (by simp only [hl398]) rfl ?_
      exact oe (mp (t391, ()) h397 [0, 1, 3, 4, 18, 20, 24] [0] 0)
    exact qk (mp (x0, ()) h390 [0, 1, 3, 4, 18, 20, 24] [0] 0)
  have h337 := (congrFun hk336 _).symm.trans h337p
  refine nt (qs (qs ?_))
  obtain ⟨p338, hE339, h340⟩ := bS h337
  refine JC_cut (τ := Unit) (fun _ => [(0, .v (.slice a0_0 y334.1.length c0_0)), (1, vi x1), (3, vi x3), (4, .v (.func (.func 35) #[] #[.pointer (some ⟨g4_0, 0, none⟩), .pointer (some ⟨g4_1, 0, none⟩), .pointer (some ⟨g4_2, 0, none⟩)])), (18, vi (w64 (Int.fdiv (wu64 (w64 (x1 + x3))) 2))), (20, vi y316.1), (24, vi (w64 ((w64 ((w64 (Int.fdiv (wu64 (w64 (x1 + x3))) 2)) + x2)) - y316.1))), (199, vb p338)]) (fun _ => []) (fun _ => [SlRes e0_0 y334.1 a0_0 c0_0]) ?_ (fun _ => ?_)
  · refine qr (oN 4 [(195, vb (decide (x1 < y316.1)))] [0, 1, 3, 4, 18, 20, 24] ?_)
    refine oS 195 hE339 (fun h342 => ?_) (fun h343 => ?_)
    · refine oN 4 [(199, vb (decide (y316.1 < (w64 (Int.fdiv (wu64 (w64 (x1 + x3))) 2)))))] [0, 1, 3, 4, 18, 20, 24] ?_
      refine oe ?_
      obtain rfl := sI h342
      exact mt () [0, 1, 3, 4, 18, 20, 24, 199] [0] 0
    refine oN 4 [(199, vb false)] [0, 1, 3, 4, 18, 20, 24] ?_
    refine oe ?_
    obtain rfl := sI h343
    exact mt () [0, 1, 3, 4, 18, 20, 24, 199] [0] 0
  refine nt ?_
  obtain ⟨k355, hk356, h375⟩ := jS h340
  refine JC_cutP (τ := ((List Int)) × (Unit)) (fun y => k355 y.1 = some r) (fun y354 => [(0, .v (.slice a0_0 y354.1.length c0_0)), (3, vi x3), (4, .v (.func (.func 35) #[] #[.pointer (some ⟨g4_0, 0, none⟩), .pointer (some ⟨g4_1, 0, none⟩), .pointer (some ⟨g4_2, 0, none⟩)])), (18, vi (w64 (Int.fdiv (wu64 (w64 (x1 + x3))) 2))), (24, vi (w64 ((w64 ((w64 (Int.fdiv (wu64 (w64 (x1 + x3))) 2)) + x2)) - y316.1)))]) (fun y354 => []) (fun y354 => [SlRes e0_0 y354.1 a0_0 c0_0]) ?_ (fun y354 h357p => ?_)
  · refine cC h375 (fun h377 => ?_) (fun h378 => ?_)
    · refine qr (oN 5 [(204, .v (.func (.func 35) #[] #[.pointer (some ⟨g4_0, 0, none⟩), .pointer (some ⟨g4_1, 0, none⟩), .pointer (some ⟨g4_2, 0, none⟩)])), (203, vi (w64 (Int.fdiv (wu64 (w64 (x1 + x3))) 2))), (202, vi y316.1), (201, vi x1), (200, .v (.slice a0_0 y334.1.length c0_0))] [0, 3, 4, 18, 24] ?_)
      obtain ⟨t379, h380, h381⟩ := bS h377
      obtain ⟨u383, hu384, h385⟩ := bS h381
      have hl386 := (sameLen_some hu384).symm
      refine JO_callMQ rfl (by kernel_rfl) (f := 44) (C := fun γ => (fun w => ∀ (q0 : Int) (q1 : Int) (r : Int), impl_Allocate_1 q0 q1 z4_0 z4_1 z4_2 = some r → Gives0 Try.prog 35 #[.int .i64 q0, .int .i64 q1, .pointer (some ⟨g4_0, 0, none⟩), .pointer (some ⟨g4_1, 0, none⟩), .pointer (some ⟨g4_2, 0, none⟩)] w (.int .i64 r))) (args := fun γ => #[.slice a0_0 y334.1.length c0_0, .int .i64 x1, .int .i64 y316.1, .int .i64 (w64 (Int.fdiv (wu64 (w64 (x1 + x3))) 2)), .func (.func 35) #[] #[.pointer (some ⟨g4_0, 0, none⟩), .pointer (some ⟨g4_1, 0, none⟩), .pointer (some ⟨g4_2, 0, none⟩)]]) (fun γ => by kernel_rfl) (x := .tuple #[]) (Rin := [SlRes e0_0 y334.1 a0_0 c0_0]) (Rout := [SlRes e0_0 t379 a0_0 c0_0]) (Rr := []) rfl (fun γ w hs => (by have vv := ih (e0_0 := e0_0) (a0_0 := a0_0) (c0_0 := c0_0) (g4_0 := g4_0) (g4_1 := g4_1) (g4_2 := g4_2) (W := w) h380; exact vv)) (fun γ w hk hb => hq w hk) (sl' := [(205, .v (.tuple #[])), (204, .v (.func (.func 35) #[] #[.pointer (some ⟨g4_0, 0, none⟩), .pointer (some ⟨g4_1, 0, none⟩), .pointer (some ⟨g4_2, 0, none⟩)])), (203, vi (w64 (Int.fdiv (wu64 (w64 (x1 + x3))) 2))), (202, vi y316.1), (201, vi x1), (200, .v (.slice a0_0 y334.1.length c0_0)), (0, .v (.slice a0_0 y334.1.length c0_0)), (3, vi x3), (4, .v (.func (.func 35) #[] #[.pointer (some ⟨g4_0, 0, none⟩), .pointer (some ⟨g4_1, 0, none⟩), .pointer (some ⟨g4_2, 0, none⟩)])), (18, vi (w64 (Int.fdiv (wu64 (w64 (x1 + x3))) 2))), (24, vi (w64 ((w64 ((w64 (Int.fdiv (wu64 (w64 (x1 + x3))) 2)) + x2)) - y316.1)))]) (by kernel_rfl) ?_
      refine JO_eqE (sl' := [(205, .v (.tuple #[])), (204, .v (.func (.func 35) #[] #[.pointer (some ⟨g4_0, 0, none⟩), .pointer (some ⟨g4_1, 0, none⟩), .pointer (some ⟨g4_2, 0, none⟩)])), (203, vi (w64 (Int.fdiv (wu64 (w64 (x1 + x3))) 2))), (202, vi y316.1), (201, vi x1), (200, .v (.slice a0_0 t379.length c0_0)), (0, .v (.slice a0_0 t379.length c0_0)), (3, vi x3), (4, .v (.func (.func 35) #[] #[.pointer (some ⟨g4_0, 0, none⟩), .pointer (some ⟨g4_1, 0, none⟩), .pointer (some ⟨g4_2, 0, none⟩)])), (18, vi (w64 (Int.fdiv (wu64 (w64 (x1 + x3))) 2))), (24, vi (w64 ((w64 ((w64 (Int.fdiv (wu64 (w64 (x1 + x3))) 2)) + x2)) - y316.1)))]) (bx' := []) (by simp only [hl386]) rfl ?_
      exact oe (mp (t379, ()) h385 [0, 3, 4, 18, 24] [0] 0)
    exact qk (mp (y334.1, ()) h378 [0, 3, 4, 18, 24] [0] 0)
  have h357 := (congrFun hk356 _).symm.trans h357p
  refine nt (qs ?_)
  obtain ⟨p358, hE359, h360⟩ := bS h357
  refine JC_cut (τ := Unit) (fun _ => [(0, .v (.slice a0_0 y354.1.length c0_0)), (3, vi x3), (4, .v (.func (.func 35) #[] #[.pointer (some ⟨g4_0, 0, none⟩), .pointer (some ⟨g4_1, 0, none⟩), .pointer (some ⟨g4_2, 0, none⟩)])), (18, vi (w64 (Int.fdiv (wu64 (w64 (x1 + x3))) 2))), (24, vi (w64 ((w64 ((w64 (Int.fdiv (wu64 (w64 (x1 + x3))) 2)) + x2)) - y316.1))), (213, vb p358)]) (fun _ => []) (fun _ => [SlRes e0_0 y354.1 a0_0 c0_0]) ?_ (fun _ => ?_)
  · refine qr (oN 4 [(209, vb (decide ((w64 (Int.fdiv (wu64 (w64 (x1 + x3))) 2)) < (w64 ((w64 ((w64 (Int.fdiv (wu64 (w64 (x1 + x3))) 2)) + x2)) - y316.1)))))] [0, 3, 4, 18, 24] ?_)
    refine oS 209 hE359 (fun h362 => ?_) (fun h363 => ?_)
    · refine oN 4 [(213, vb (decide ((w64 ((w64 ((w64 (Int.fdiv (wu64 (w64 (x1 + x3))) 2)) + x2)) - y316.1)) < x3)))] [0, 3, 4, 18, 24] ?_
      refine oe ?_
      obtain rfl := sI h362
      exact mt () [0, 3, 4, 18, 24, 213] [0] 0
    refine oN 4 [(213, vb false)] [0, 3, 4, 18, 24] ?_
    refine oe ?_
    obtain rfl := sI h363
    exact mt () [0, 3, 4, 18, 24, 213] [0] 0
  refine nt (cC h360 (fun h365 => ?_) (fun h366 => ?_))
  · refine qr (oN 5 [(218, .v (.func (.func 35) #[] #[.pointer (some ⟨g4_0, 0, none⟩), .pointer (some ⟨g4_1, 0, none⟩), .pointer (some ⟨g4_2, 0, none⟩)])), (217, vi x3), (216, vi (w64 ((w64 ((w64 (Int.fdiv (wu64 (w64 (x1 + x3))) 2)) + x2)) - y316.1))), (215, vi (w64 (Int.fdiv (wu64 (w64 (x1 + x3))) 2))), (214, .v (.slice a0_0 y354.1.length c0_0))] [0, 4] ?_)
    obtain ⟨t367, h368, h369⟩ := bS h365
    obtain ⟨u371, hu372, h373⟩ := bS h369
    have hl374 := (sameLen_some hu372).symm
    refine JO_callMQ rfl (by kernel_rfl) (f := 44) (C := fun γ => (fun w => ∀ (q0 : Int) (q1 : Int) (r : Int), impl_Allocate_1 q0 q1 z4_0 z4_1 z4_2 = some r → Gives0 Try.prog 35 #[.int .i64 q0, .int .i64 q1, .pointer (some ⟨g4_0, 0, none⟩), .pointer (some ⟨g4_1, 0, none⟩), .pointer (some ⟨g4_2, 0, none⟩)] w (.int .i64 r))) (args := fun γ => #[.slice a0_0 y354.1.length c0_0, .int .i64 (w64 (Int.fdiv (wu64 (w64 (x1 + x3))) 2)), .int .i64 (w64 ((w64 ((w64 (Int.fdiv (wu64 (w64 (x1 + x3))) 2)) + x2)) - y316.1)), .int .i64 x3, .func (.func 35) #[] #[.pointer (some ⟨g4_0, 0, none⟩), .pointer (some ⟨g4_1, 0, none⟩), .pointer (some ⟨g4_2, 0, none⟩)]]) (fun γ => by kernel_rfl) (x := .tuple #[]) (Rin := [SlRes e0_0 y354.1 a0_0 c0_0]) (Rout := [SlRes e0_0 t367 a0_0 c0_0]) (Rr := []) rfl (fun γ w hs => (by have vv := ih (e0_0 := e0_0) (a0_0 := a0_0) (c0_0 := c0_0) (g4_0 := g4_0) (g4_1 := g4_1) (g4_2 := g4_2) (W := w) h368; exact vv)) (fun γ w hk hb => hq w hk) (sl' := [(219, .v (.tuple #[])), (218, .v (.func (.func 35) #[] #[.pointer (some ⟨g4_0, 0, none⟩), .pointer (some ⟨g4_1, 0, none⟩), .pointer (some ⟨g4_2, 0, none⟩)])), (217, vi x3), (216, vi (w64 ((w64 ((w64 (Int.fdiv (wu64 (w64 (x1 + x3))) 2)) + x2)) - y316.1))), (215, vi (w64 (Int.fdiv (wu64 (w64 (x1 + x3))) 2))), (214, .v (.slice a0_0 y354.1.length c0_0)), (0, .v (.slice a0_0 y354.1.length c0_0)), (4, .v (.func (.func 35) #[] #[.pointer (some ⟨g4_0, 0, none⟩), .pointer (some ⟨g4_1, 0, none⟩), .pointer (some ⟨g4_2, 0, none⟩)]))]) (by kernel_rfl) ?_
    refine JO_eqE (sl' := [(219, .v (.tuple #[])), (218, .v (.func (.func 35) #[] #[.pointer (some ⟨g4_0, 0, none⟩), .pointer (some ⟨g4_1, 0, none⟩), .pointer (some ⟨g4_2, 0, none⟩)])), (217, vi x3), (216, vi (w64 ((w64 ((w64 (Int.fdiv (wu64 (w64 (x1 + x3))) 2)) + x2)) - y316.1))), (215, vi (w64 (Int.fdiv (wu64 (w64 (x1 + x3))) 2))), (214, .v (.slice a0_0 t367.length c0_0)), (0, .v (.slice a0_0 t367.length c0_0)), (4, .v (.func (.func 35) #[] #[.pointer (some ⟨g4_0, 0, none⟩), .pointer (some ⟨g4_1, 0, none⟩), .pointer (some ⟨g4_2, 0, none⟩)]))]) (bx' := []) (by simp only [hl374]) rfl ?_
    refine oe (JE_fall (vs := []) (by kernel_rfl) (fun γ w hs => ?_))
    rw [← sI h373]
    exact hs.turned (is := [0]) rfl
  refine qk (JE_fall (vs := []) (by kernel_rfl) (fun γ w hs => ?_))
  rw [← sI h366]
  exact hs.turned (is := [0]) rfl

theorem c_slices_stableCmpFunc_int__impl_Allocate_1 {W : World} {x0 : List Int} {a0_0 : Option Addr} {c0_0 : Nat} {e0_0 : TypeId} {x1 : Int} {g2_0 : Nat} {z2_0 : Int} {g2_1 : Nat} {z2_1 : List Int} {g2_2 : Nat} {z2_2 : Int} {r : (List Int)} (h : slices_stableCmpFunc_int__impl_Allocate_1 x0 x1 z2_0 z2_1 z2_2 = some r)  :
    GivesMQ Try.prog (fun w => ∀ (q0 : Int) (q1 : Int) (r : Int), impl_Allocate_1 q0 q1 z2_0 z2_1 z2_2 = some r → Gives0 Try.prog 35 #[.int .i64 q0, .int .i64 q1, .pointer (some ⟨g2_0, 0, none⟩), .pointer (some ⟨g2_1, 0, none⟩), .pointer (some ⟨g2_2, 0, none⟩)] w (.int .i64 r)) 40 #[.slice a0_0 x0.length c0_0, .int .i64 x1, .func (.func 35) #[] #[.pointer (some ⟨g2_0, 0, none⟩), .pointer (some ⟨g2_1, 0, none⟩), .pointer (some ⟨g2_2, 0, none⟩)]] W [SlRes e0_0 x0 a0_0 c0_0] [SlRes e0_0 r a0_0 c0_0] (.tuple #[]) := by
 unfold slices_stableCmpFunc_int__impl_Allocate_1 at h
 refine enterMQ [.v (.slice a0_0 x0.length c0_0), vi x1, .v (.func (.func 35) #[] #[.pointer (some ⟨g2_0, 0, none⟩), .pointer (some ⟨g2_1, 0, none⟩), .pointer (some ⟨g2_2, 0, none⟩)])] (args := [.slice a0_0 x0.length c0_0, .int .i64 x1, .func (.func 35) #[] #[.pointer (some ⟨g2_0, 0, none⟩), .pointer (some ⟨g2_1, 0, none⟩), .pointer (some ⟨g2_2, 0, none⟩)]]) (by kernel_rfl) (by kernel_rfl) Try.func40 rfl Try.ntmps40 (by kernel_rfl) (fun Fs hq => ?_)
 refine qs (qr (oN 1 [(6, vi 20)] [0, 1, 2] ?_))
 refine oe (nt (qs (qr (oN 3 [(8, vi 20), (7, vi 0)] [6, 0, 1, 2] ?_))))
 refine oe (nt (qs ?_))
 obtain ⟨r24, hL25, h26⟩ := bS h
 obtain ⟨k27, hk28, h26⟩ := brkS h26
 refine JC_cutP (τ := (Int × Int × (List Int) × Int) × (Unit)) (fun y => k27 y.1 = some r) (fun y32 => [(7, vi y32.1.1), (6, vi y32.1.2.1), (0, .v (.slice a0_0 y32.1.2.2.1.length c0_0)), (1, vi y32.1.2.2.2), (2, .v (.func (.func 35) #[] #[.pointer (some ⟨g2_0, 0, none⟩), .pointer (some ⟨g2_1, 0, none⟩), .pointer (some ⟨g2_2, 0, none⟩)]))]) (fun y32 => []) (fun y32 => [SlRes e0_0 y32.1.2.2.1 a0_0 c0_0]) ?_ (fun y32 h33p => ?_)
 · refine qb (lp Unit hL25 (fun s21 y22 => [(8, vi s21.1), (7, vi s21.2.1), (6, vi 20), (0, .v (.slice a0_0 s21.2.2.length c0_0)), (1, vi x1), (2, .v (.func (.func 35) #[] #[.pointer (some ⟨g2_0, 0, none⟩), .pointer (some ⟨g2_1, 0, none⟩), .pointer (some ⟨g2_2, 0, none⟩)]))]) (fun s21 y22 => []) (fun s21 y22 => [SlRes e0_0 s21.2.2 a0_0 c0_0]) () [8, 7, 6, 0, 1, 2] [0] 0 (fun s21 y22 t23 h29 hd30 => ?_))
   refine qs (qs (qr (oN 3 [(13, vb (decide (s21.1 ≤ x1)))] [8, 7, 6, 0, 1, 2] ?_)))
   refine oe (nt (cC h29 (fun h111 => ?_) (fun h112 => ?_)))
   · refine qk (nt (qb (qs (qr (oN 4 [(17, .v (.func (.func 35) #[] #[.pointer (some ⟨g2_0, 0, none⟩), .pointer (some ⟨g2_1, 0, none⟩), .pointer (some ⟨g2_2, 0, none⟩)])), (16, vi s21.1), (15, vi s21.2.1), (14, .v (.slice a0_0 s21.2.2.length c0_0))] [8, 6, 0, 1, 2] ?_)))))
     obtain ⟨t113, h114, h115⟩ := bS h111
     obtain ⟨u117, hu118, h119⟩ := bS h115
     have hl120 := (sameLen_some hu118).symm
     refine JO_callMQ rfl (by kernel_rfl) (f := 43) (C := fun γ => (fun w => ∀ (q0 : Int) (q1 : Int) (r : Int), impl_Allocate_1 q0 q1 z2_0 z2_1 z2_2 = some r → Gives0 Try.prog 35 #[.int .i64 q0, .int .i64 q1, .pointer (some ⟨g2_0, 0, none⟩), .pointer (some ⟨g2_1, 0, none⟩), .pointer (some ⟨g2_2, 0, none⟩)] w (.int .i64 r))) (args := fun γ => #[.slice a0_0 s21.2.2.length c0_0, .int .i64 s21.2.1, .int .i64 s21.1, .func (.func 35) #[] #[.pointer (some ⟨g2_0, 0, none⟩), .pointer (some ⟨g2_1, 0, none⟩), .pointer (some ⟨g2_2, 0, none⟩)]]) (fun γ => by kernel_rfl) (x := .tuple #[]) (Rin := [SlRes e0_0 s21.2.2 a0_0 c0_0]) (Rout := [SlRes e0_0 t113 a0_0 c0_0]) (Rr := []) rfl (fun γ w hs => (by have vv := c_slices_insertionSortCmpFunc_int__impl_Allocate_1 (e0_0 := e0_0) (a0_0 := a0_0) (c0_0 := c0_0) (g3_0 := g2_0) (g3_1 := g2_1) (g3_2 := g2_2) (W := w) h114; exact vv)) (fun γ w hk hb => hq w hk) (sl' := [(18, .v (.tuple #[])), (17, .v (.func (.func 35) #[] #[.pointer (some ⟨g2_0, 0, none⟩), .pointer (some ⟨g2_1, 0, none⟩), .pointer (some ⟨g2_2, 0, none⟩)])), (16, vi s21.1), (15, vi s21.2.1), (14, .v (.slice a0_0 s21.2.2.length c0_0)), (8, vi s21.1), (6, vi 20), (0, .v (.slice a0_0 s21.2.2.length c0_0)), (1, vi x1), (2, .v (.func (.func 35) #[] #[.pointer (some ⟨g2_0, 0, none⟩), .pointer (some ⟨g2_1, 0, none⟩), .pointer (some ⟨g2_2, 0, none⟩)]))]) (by kernel_rfl) ?_
     refine JO_eqE (sl' := [(18, .v (.tuple #[])), (17, .v (.func (.func 35) #[] #[.pointer (some ⟨g2_0, 0, none⟩), .pointer (some ⟨g2_1, 0, none⟩), .pointer (some ⟨g2_2, 0, none⟩)])), (16, vi s21.1), (15, vi s21.2.1), (14, .v (.slice a0_0 t113.length c0_0)), (8, vi s21.1), (6, vi 20), (0, .v (.slice a0_0 t113.length c0_0)), (1, vi x1), (2, .v (.func (.func 35) #[] #[.pointer (some ⟨g2_0, 0, none⟩), .pointer (some ⟨g2_1, 0, none⟩), .pointer (some ⟨g2_2, 0, none⟩)]))]) (bx' := []) (by simp only [hl120]) rfl ?_
     refine oe (nt (qs (qr (oN 2 [(7, vi s21.1)] [8, 6, 0, 1, 2] ?_))))
     refine oe (nt (qr (oN 4 [(8, vi (w64 (s21.1 + 20)))] [7, 6, 0, 1, 2] ?_)))
     exact oe (bn (ct h119 () [8, 7, 6, 0, 1, 2] [0] 0))
   refine qx (nx (nx (bh ?_)))
   have h121 := leafB hd30 h112 h26
   exact mp ((s21.2.1, 20, s21.2.2, x1), ()) h121 [7, 6, 0, 1, 2] [0] 0
 have h33 := (congrFun hk28 _).symm.trans h33p
 refine nt (qs (qr (oN 4 [(26, .v (.func (.func 35) #[] #[.pointer (some ⟨g2_0, 0, none⟩), .pointer (some ⟨g2_1, 0, none⟩), .pointer (some ⟨g2_2, 0, none⟩)])), (25, vi y32.1.2.2.2), (24, vi y32.1.1), (23, .v (.slice a0_0 y32.1.2.2.1.length c0_0))] [6, 0, 1, 2] ?_)))
 obtain ⟨t34, h35, h36⟩ := bS h33
 obtain ⟨u38, hu39, h40⟩ := bS h36
 have hl41 := (sameLen_some hu39).symm
 refine JO_callMQ rfl (by kernel_rfl) (f := 43) (C := fun γ => (fun w => ∀ (q0 : Int) (q1 : Int) (r : Int), impl_Allocate_1 q0 q1 z2_0 z2_1 z2_2 = some r → Gives0 Try.prog 35 #[.int .i64 q0, .int .i64 q1, .pointer (some ⟨g2_0, 0, none⟩), .pointer (some ⟨g2_1, 0, none⟩), .pointer (some ⟨g2_2, 0, none⟩)] w (.int .i64 r))) (args := fun γ => #[.slice a0_0 y32.1.2.2.1.length c0_0, .int .i64 y32.1.1, .int .i64 y32.1.2.2.2, .func (.func 35) #[] #[.pointer (some ⟨g2_0, 0, none⟩), .pointer (some ⟨g2_1, 0, none⟩), .pointer (some ⟨g2_2, 0, none⟩)]]) (fun γ => by kernel_rfl) (x := .tuple #[]) (Rin := [SlRes e0_0 y32.1.2.2.1 a0_0 c0_0]) (Rout := [SlRes e0_0 t34 a0_0 c0_0]) (Rr := []) rfl (fun γ w hs => (by have vv := c_slices_insertionSortCmpFunc_int__impl_Allocate_1 (e0_0 := e0_0) (a0_0 := a0_0) (c0_0 := c0_0) (g3_0 := g2_0) (g3_1 := g2_1) (g3_2 := g2_2) (W := w) h35; exact vv)) (fun γ w hk hb => hq w hk) (sl' := [(27, .v (.tuple #[])), (26, .v (.func (.func 35) #[] #[.pointer (some ⟨g2_0, 0, none⟩), .pointer (some ⟨g2_1, 0, none⟩), .pointer (some ⟨g2_2, 0, none⟩)])), (25, vi y32.1.2.2.2), (24, vi y32.1.1), (23, .v (.slice a0_0 y32.1.2.2.1.length c0_0)), (6, vi y32.1.2.1), (0, .v (.slice a0_0 y32.1.2.2.1.length c0_0)), (1, vi y32.1.2.2.2), (2, .v (.func (.func 35) #[] #[.pointer (some ⟨g2_0, 0, none⟩), .pointer (some ⟨g2_1, 0, none⟩), .pointer (some ⟨g2_2, 0, none⟩)]))]) (by kernel_rfl) ?_
 refine JO_eqE (sl' := [(27, .v (.tuple #[])), (26, .v (.func (.func 35) #[] #[.pointer (some ⟨g2_0, 0, none⟩), .pointer (some ⟨g2_1, 0, none⟩), .pointer (some ⟨g2_2, 0, none⟩)])), (25, vi y32.1.2.2.2), (24, vi y32.1.1), (23, .v (.slice a0_0 t34.length c0_0)), (6, vi y32.1.2.1), (0, .v (.slice a0_0 t34.length c0_0)), (1, vi y32.1.2.2.2), (2, .v (.func (.func 35) #[] #[.pointer (some ⟨g2_0, 0, none⟩), .pointer (some ⟨g2_1, 0, none⟩), .pointer (some ⟨g2_2, 0, none⟩)]))]) (bx' := []) (by simp only [hl41]) rfl ?_
 refine oe (nt ?_)
 obtain ⟨r45, hL46, h47⟩ := bS h40
 obtain ⟨k48, hk49, h47⟩ := brkS h47
 refine JC_cutP (τ := ((List Int)) × (Unit)) (fun y => k48 y.1 = some r) (fun y53 => [(0, .v (.slice a0_0 y53.1.length c0_0)), (2, .v (.func (.func 35) #[] #[.pointer (some ⟨g2_0, 0, none⟩), .pointer (some ⟨g2_1, 0, none⟩), .pointer (some ⟨g2_2, 0, none⟩)]))]) (fun y53 => []) (fun y53 => [SlRes e0_0 y53.1 a0_0 c0_0]) ?_ (fun y53 h54p => ?_)
 · refine qb (lp Unit hL46 (fun s42 y43 => [(6, vi s42.1), (0, .v (.slice a0_0 s42.2.1.length c0_0)), (1, vi s42.2.2), (2, .v (.func (.func 35) #[] #[.pointer (some ⟨g2_0, 0, none⟩), .pointer (some ⟨g2_1, 0, none⟩), .pointer (some ⟨g2_2, 0, none⟩)]))]) (fun s42 y43 => []) (fun s42 y43 => [SlRes e0_0 s42.2.1 a0_0 c0_0]) () [6, 0, 1, 2] [0] 0 (fun s42 y43 t44 h50 hd51 => ?_))
   refine qs (qs (qr (oN 3 [(30, vb (decide (s42.1 < s42.2.2)))] [6, 0, 1, 2] ?_)))
   refine oe (nt (cC h50 (fun h56 => ?_) (fun h57 => ?_)))
   · refine qk (nt (qb (qs (qr (oN 4 [(8, vi (w64 (2 * s42.1))), (7, vi 0)] [6, 0, 1, 2] ?_)))))
     refine oe (nt (qs ?_))
     obtain ⟨r61, hL62, h63⟩ := bS h56
     obtain ⟨k64, hk65, h63⟩ := brkS h63
     refine JC_cutP (τ := (Int × Int × (List Int) × Int) × (Unit)) (fun y => k64 y.1 = some t44) (fun y69 => [(7, vi y69.1.1), (6, vi y69.1.2.1), (0, .v (.slice a0_0 y69.1.2.2.1.length c0_0)), (1, vi y69.1.2.2.2), (2, .v (.func (.func 35) #[] #[.pointer (some ⟨g2_0, 0, none⟩), .pointer (some ⟨g2_1, 0, none⟩), .pointer (some ⟨g2_2, 0, none⟩)]))]) (fun y69 => []) (fun y69 => [SlRes e0_0 y69.1.2.2.1 a0_0 c0_0]) ?_ (fun y69 h70p => ?_)
     · refine qb (lp Unit hL62 (fun s58 y59 => [(8, vi s58.1), (7, vi s58.2.1), (6, vi s42.1), (0, .v (.slice a0_0 s58.2.2.length c0_0)), (1, vi s42.2.2), (2, .v (.func (.func 35) #[] #[.pointer (some ⟨g2_0, 0, none⟩), .pointer (some ⟨g2_1, 0, none⟩), .pointer (some ⟨g2_2, 0, none⟩)]))]) (fun s58 y59 => []) (fun s58 y59 => [SlRes e0_0 s58.2.2 a0_0 c0_0]) () [8, 7, 6, 0, 1, 2] [0] 0 (fun s58 y59 t60 h66 hd67 => ?_))
       refine qs (qs (qr (oN 3 [(35, vb (decide (s58.1 ≤ s42.2.2)))] [8, 7, 6, 0, 1, 2] ?_)))
       refine oe (nt (cC h66 (fun h98 => ?_) (fun h99 => ?_)))
       · refine qk (nt (qb (qs (qr (oN 7 [(42, .v (.func (.func 35) #[] #[.pointer (some ⟨g2_0, 0, none⟩), .pointer (some ⟨g2_1, 0, none⟩), .pointer (some ⟨g2_2, 0, none⟩)])), (41, vi s58.1), (40, vi (w64 (s58.2.1 + s42.1))), (37, vi s58.2.1), (36, .v (.slice a0_0 s58.2.2.length c0_0))] [8, 6, 0, 1, 2] ?_)))))
         obtain ⟨t100, h101, h102⟩ := bS h98
         obtain ⟨u104, hu105, h106⟩ := bS h102
         have hl107 := (sameLen_some hu105).symm
         refine JO_callMQ rfl (by kernel_rfl) (f := 44) (C := fun γ => (fun w => ∀ (q0 : Int) (q1 : Int) (r : Int), impl_Allocate_1 q0 q1 z2_0 z2_1 z2_2 = some r → Gives0 Try.prog 35 #[.int .i64 q0, .int .i64 q1, .pointer (some ⟨g2_0, 0, none⟩), .pointer (some ⟨g2_1, 0, none⟩), .pointer (some ⟨g2_2, 0, none⟩)] w (.int .i64 r))) (args := fun γ => #[.slice a0_0 s58.2.2.length c0_0, .int .i64 s58.2.1, .int .i64 (w64 (s58.2.1 + s42.1)), .int .i64 s58.1, .func (.func 35) #[] #[.pointer (some ⟨g2_0, 0, none⟩), .pointer (some ⟨g2_1, 0, none⟩), .pointer (some ⟨g2_2, 0, none⟩)]]) (fun γ => by kernel_rfl) (x := .tuple #[]) (Rin := [SlRes e0_0 s58.2.2 a0_0 c0_0]) (Rout := [SlRes e0_0 t100 a0_0 c0_0]) (Rr := []) rfl (fun γ w hs => (by have vv := c_slices_symMergeCmpFunc_int__impl_Allocate_1 64 (e0_0 := e0_0) (a0_0 := a0_0) (c0_0 := c0_0) (g4_0 := g2_0) (g4_1 := g2_1) (g4_2 := g2_2) (W := w) h101; exact vv)) (fun γ w hk hb => hq w hk) (sl' := [(43, .v (.tuple #[])), (42, .v (.func (.func 35) #[] #[.pointer (some ⟨g2_0, 0, none⟩), .pointer (some ⟨g2_1, 0, none⟩), .pointer (some ⟨g2_2, 0, none⟩)])), (41, vi s58.1), (40, vi (w64 (s58.2.1 + s42.1))), (37, vi s58.2.1), (36, .v (.slice a0_0 s58.2.2.length c0_0)), (8, vi s58.1), (6, vi s42.1), (0, .v (.slice a0_0 s58.2.2.length c0_0)), (1, vi s42.2.2), (2, .v (.func (.func 35) #[] #[.pointer (some ⟨g2_0, 0, none⟩), .pointer (some ⟨g2_1, 0, none⟩), .pointer (some ⟨g2_2, 0, none⟩)]))]) (by kernel_rfl) ?_
         refine JO_eqE (sl' := [(43, .v (.tuple #[])), (42, .v (.func (.func 35) #[] #[.pointer (some ⟨g2_0, 0, none⟩), .pointer (some ⟨g2_1, 0, none⟩), .pointer (some ⟨g2_2, 0, none⟩)])), (41, vi s58.1), (40, vi (w64 (s58.2.1 + s42.1))), (37, vi s58.2.1), (36, .v (.slice a0_0 t100.length c0_0)), (8, vi s58.1), (6, vi s42.1), (0, .v (.slice a0_0 t100.length c0_0)), (1, vi s42.2.2), (2, .v (.func (.func 35) #[] #[.pointer (some ⟨g2_0, 0, none⟩), .pointer (some ⟨g2_1, 0, none⟩), .pointer (some ⟨g2_2, 0, none⟩)]))]) (bx' := []) (by simp only [hl107]) rfl ?_
         refine oe (nt (qs (qr (oN 2 [(7, vi s58.1)] [8, 6, 0, 1, 2] ?_))))
         refine oe (nt (qr (oN 5 [(8, vi (w64 (s58.1 + (w64 (2 * s42.1)))))] [7, 6, 0, 1, 2] ?_)))
         exact oe (bn (ct h106 () [8, 7, 6, 0, 1, 2] [0] 0))
       refine qx (nx (nx (bh ?_)))
       have h108 := leafB hd67 h99 h63
       exact mp ((s58.2.1, s42.1, s58.2.2, s42.2.2), ()) h108 [7, 6, 0, 1, 2] [0] 0
     have h70 := (congrFun hk65 _).symm.trans h70p
     refine nt (qs (qs (qr (oN 4 [(9, vi (w64 (y69.1.1 + y69.1.2.1)))] [7, 6, 0, 1, 2] ?_))))
     refine oe (nt (qs (qr (oN 3 [(54, vb (decide ((w64 (y69.1.1 + y69.1.2.1)) < y69.1.2.2.2)))] [9, 7, 6, 0, 1, 2] ?_))))
     refine oe (nt ?_)
     obtain ⟨k82, hk83, h85⟩ := jS h70
     refine JC_cutP (τ := ((List Int)) × (Unit)) (fun y => k82 y.1 = some t44) (fun y81 => [(6, vi y69.1.2.1), (0, .v (.slice a0_0 y81.1.length c0_0)), (1, vi y69.1.2.2.2), (2, .v (.func (.func 35) #[] #[.pointer (some ⟨g2_0, 0, none⟩), .pointer (some ⟨g2_1, 0, none⟩), .pointer (some ⟨g2_2, 0, none⟩)]))]) (fun y81 => []) (fun y81 => [SlRes e0_0 y81.1 a0_0 c0_0]) ?_ (fun y81 h84p => ?_)
     · refine cC h85 (fun h87 => ?_) (fun h88 => ?_)
       · refine qr (oN 5 [(59, .v (.func (.func 35) #[] #[.pointer (some ⟨g2_0, 0, none⟩), .pointer (some ⟨g2_1, 0, none⟩), .pointer (some ⟨g2_2, 0, none⟩)])), (58, vi y69.1.2.2.2), (57, vi (w64 (y69.1.1 + y69.1.2.1))), (56, vi y69.1.1), (55, .v (.slice a0_0 y69.1.2.2.1.length c0_0))] [6, 0, 1, 2] ?_)
         obtain ⟨t89, h90, h91⟩ := bS h87
         obtain ⟨u93, hu94, h95⟩ := bS h91
         have hl96 := (sameLen_some hu94).symm
         refine JO_callMQ rfl (by kernel_rfl) (f := 44) (C := fun γ => (fun w => ∀ (q0 : Int) (q1 : Int) (r : Int), impl_Allocate_1 q0 q1 z2_0 z2_1 z2_2 = some r → Gives0 Try.prog 35 #[.int .i64 q0, .int .i64 q1, .pointer (some ⟨g2_0, 0, none⟩), .pointer (some ⟨g2_1, 0, none⟩), .pointer (some ⟨g2_2, 0, none⟩)] w (.int .i64 r))) (args := fun γ => #[.slice a0_0 y69.1.2.2.1.length c0_0, .int .i64 y69.1.1, .int .i64 (w64 (y69.1.1 + y69.1.2.1)), .int .i64 y69.1.2.2.2, .func (.func 35) #[] #[.pointer (some ⟨g2_0, 0, none⟩), .pointer (some ⟨g2_1, 0, none⟩), .pointer (some ⟨g2_2, 0, none⟩)]]) (fun γ => by kernel_rfl) (x := .tuple #[]) (Rin := [SlRes e0_0 y69.1.2.2.1 a0_0 c0_0]) (Rout := [SlRes e0_0 t89 a0_0 c0_0]) (Rr := []) rfl (fun γ w hs => (by have vv := c_slices_symMergeCmpFunc_int__impl_Allocate_1 64 (e0_0 := e0_0) (a0_0 := a0_0) (c0_0 := c0_0) (g4_0 := g2_0) (g4_1 := g2_1) (g4_2 := g2_2) (W := w) h90; exact vv)) (fun γ w hk hb => hq w hk) (sl' := [(60, .v (.tuple #[])), (59, .v (.func (.func 35) #[] #[.pointer (some ⟨g2_0, 0, none⟩), .pointer (some ⟨g2_1, 0, none⟩), .pointer (some ⟨g2_2, 0, none⟩)])), (58, vi y69.1.2.2.2), (57, vi (w64 (y69.1.1 + y69.1.2.1))), (56, vi y69.1.1), (55, .v (.slice a0_0 y69.1.2.2.1.length c0_0)), (6, vi y69.1.2.1), (0, .v (.slice a0_0 y69.1.2.2.1.length c0_0)), (1, vi y69.1.2.2.2), (2, .v (.func (.func 35) #[] #[.pointer (some ⟨g2_0, 0, none⟩), .pointer (some ⟨g2_1, 0, none⟩), .pointer (some ⟨g2_2, 0, none⟩)]))]) (by kernel_rfl) ?_
         refine JO_eqE (sl' := [(60, .v (.tuple #[])), (59, .v (.func (.func 35) #[] #[.pointer (some ⟨g2_0, 0, none⟩), .pointer (some ⟨g2_1, 0, none⟩), .pointer (some ⟨g2_2, 0, none⟩)])), (58, vi y69.1.2.2.2), (57, vi (w64 (y69.1.1 + y69.1.2.1))), (56, vi y69.1.1), (55, .v (.slice a0_0 t89.length c0_0)), (6, vi y69.1.2.1), (0, .v (.slice a0_0 t89.length c0_0)), (1, vi y69.1.2.2.2), (2, .v (.func (.func 35) #[] #[.pointer (some ⟨g2_0, 0, none⟩), .pointer (some ⟨g2_1, 0, none⟩), .pointer (some ⟨g2_2, 0, none⟩)]))]) (bx' := []) (by simp only [hl96]) rfl ?_
         exact oe (mp (t89, ()) h95 [6, 0, 1, 2] [0] 0)
       exact qk (mp (y69.1.2.2.1, ()) h88 [6, 0, 1, 2] [0] 0)
     have h84 := (congrFun hk83 _).symm.trans h84p
     refine nt (qr (oN 3 [(6, vi (w64 (y69.1.2.1 * 2)))] [0, 1, 2] ?_))
     exact oe (bn (ct h84 () [6, 0, 1, 2] [0] 0))
   refine qx (nx (nx (bh ?_)))
   have h109 := leafB hd51 h57 h47
   exact mp (s42.2.1, ()) h109 [0, 2] [0] 0
 have h54 := (congrFun hk49 _).symm.trans h54p
 refine JE_fall (vs := []) (by kernel_rfl) (fun γ w hs => ?_)
 rw [← sI h54]
 exact hs.turned (is := [0]) rfl

theorem c_slices_SortStableFunc_int__impl_Allocate_1 {W : World} {x0 : List Int} {a0_0 : Option Addr} {c0_0 : Nat} {e0_0 : TypeId} {g1_0 : Nat} {z1_0 : Int} {g1_1 : Nat} {z1_1 : List Int} {g1_2 : Nat} {z1_2 : Int} {r : (List Int)} (h : slices_SortStableFunc_int__impl_Allocate_1 x0 z1_0 z1_1 z1_2 = some r)  :
    GivesMQ Try.prog (fun w => ∀ (q0 : Int) (q1 : Int) (r : Int), impl_Allocate_1 q0 q1 z1_0 z1_1 z1_2 = some r → Gives0 Try.prog 35 #[.int .i64 q0, .int .i64 q1, .pointer (some ⟨g1_0, 0, none⟩), .pointer (some ⟨g1_1, 0, none⟩), .pointer (some ⟨g1_2, 0, none⟩)] w (.int .i64 r)) 34 #[.slice a0_0 x0.length c0_0, .func (.func 35) #[] #[.pointer (some ⟨g1_0, 0, none⟩), .pointer (some ⟨g1_1, 0, none⟩), .pointer (some ⟨g1_2, 0, none⟩)]] W [SlRes e0_0 x0 a0_0 c0_0] [SlRes e0_0 r a0_0 c0_0] (.tuple #[]) := by
 unfold slices_SortStableFunc_int__impl_Allocate_1 at h
 refine enterMQ [.v (.slice a0_0 x0.length c0_0), .v (.func (.func 35) #[] #[.pointer (some ⟨g1_0, 0, none⟩), .pointer (some ⟨g1_1, 0, none⟩), .pointer (some ⟨g1_2, 0, none⟩)])] (args := [.slice a0_0 x0.length c0_0, .func (.func 35) #[] #[.pointer (some ⟨g1_0, 0, none⟩), .pointer (some ⟨g1_1, 0, none⟩), .pointer (some ⟨g1_2, 0, none⟩)]]) (by kernel_rfl) (by kernel_rfl) Try.func34 rfl Try.ntmps34 (by kernel_rfl) (fun Fs hq => ?_)
 refine qr (oN 4 [(7, .v (.func (.func 35) #[] #[.pointer (some ⟨g1_0, 0, none⟩), .pointer (some ⟨g1_1, 0, none⟩), .pointer (some ⟨g1_2, 0, none⟩)])), (6, vi (x0.length : Int)), (4, .v (.slice a0_0 x0.length c0_0))] [0, 1] ?_)
 obtain ⟨t21, h22, h23⟩ := bS h
 obtain ⟨u25, hu26, h27⟩ := bS h23
 have hl28 := (sameLen_some hu26).symm
 refine JO_callMQ rfl (by kernel_rfl) (f := 40) (C := fun γ => (fun w => ∀ (q0 : Int) (q1 : Int) (r : Int), impl_Allocate_1 q0 q1 z1_0 z1_1 z1_2 = some r → Gives0 Try.prog 35 #[.int .i64 q0, .int .i64 q1, .pointer (some ⟨g1_0, 0, none⟩), .pointer (some ⟨g1_1, 0, none⟩), .pointer (some ⟨g1_2, 0, none⟩)] w (.int .i64 r))) (args := fun γ => #[.slice a0_0 x0.length c0_0, .int .i64 (x0.length : Int), .func (.func 35) #[] #[.pointer (some ⟨g1_0, 0, none⟩), .pointer (some ⟨g1_1, 0, none⟩), .pointer (some ⟨g1_2, 0, none⟩)]]) (fun γ => by kernel_rfl) (x := .tuple #[]) (Rin := [SlRes e0_0 x0 a0_0 c0_0]) (Rout := [SlRes e0_0 t21 a0_0 c0_0]) (Rr := []) rfl (fun γ w hs => (by have vv := c_slices_stableCmpFunc_int__impl_Allocate_1 (e0_0 := e0_0) (a0_0 := a0_0) (c0_0 := c0_0) (g2_0 := g1_0) (g2_1 := g1_1) (g2_2 := g1_2) (W := w) h22; exact vv)) (fun γ w hk hb => hq w hk) (sl' := [(8, .v (.tuple #[])), (7, .v (.func (.func 35) #[] #[.pointer (some ⟨g1_0, 0, none⟩), .pointer (some ⟨g1_1, 0, none⟩), .pointer (some ⟨g1_2, 0, none⟩)])), (6, vi (x0.length : Int)), (4, .v (.slice a0_0 x0.length c0_0)), (0, .v (.slice a0_0 x0.length c0_0)), (1, .v (.func (.func 35) #[] #[.pointer (some ⟨g1_0, 0, none⟩), .pointer (some ⟨g1_1, 0, none⟩), .pointer (some ⟨g1_2, 0, none⟩)]))]) (by kernel_rfl) ?_
 refine JO_eqE (sl' := [(8, .v (.tuple #[])), (7, .v (.func (.func 35) #[] #[.pointer (some ⟨g1_0, 0, none⟩), .pointer (some ⟨g1_1, 0, none⟩), .pointer (some ⟨g1_2, 0, none⟩)])), (6, vi (x0.length : Int)), (4, .v (.slice a0_0 t21.length c0_0)), (0, .v (.slice a0_0 t21.length c0_0)), (1, .v (.func (.func 35) #[] #[.pointer (some ⟨g1_0, 0, none⟩), .pointer (some ⟨g1_1, 0, none⟩), .pointer (some ⟨g1_2, 0, none⟩)]))]) (bx' := []) (by simp only [hl28]) rfl ?_
 refine oe (JE_fall (vs := []) (by kernel_rfl) (fun γ w hs => ?_))
 rw [← sI h27]
 exact hs.turned (is := [0]) rfl

theorem c_impl_Allocate {W : World} {x0 : Int} {x1 : List Int} {a1_0 : Option Addr} {c1_0 : Nat} {r : (List Int)} (h : impl_Allocate x0 x1 = some r) (hv1_0 : SlView W x1 a1_0 c1_0) :
    Gives Try.prog 27 #[.int .i64 x0, .slice a1_0 x1.length c1_0] W (fun y : AC => .slice y.1 r.length y.2) (fun y => [SlRes 3 r y.1 y.2]) := by
 unfold impl_Allocate at h
 refine en Try.func27 Try.ntmps27 ?_
 refine qs (qr (oB 3 [(3, .p 1 0), (2, .p 0 0)] [] [(3, [.int .i64 x0]), (22, [.slice a1_0 x1.length c1_0])] ?_))
 refine oe (nt (qs (qr (oB 2 [(5, .p 2 0)] [3, 2] [(3, [.int .i64 x0]), (22, [.slice a1_0 x1.length c1_0]), (3, [.int .i64 0])] ?_))))
 refine oe (nt (qs (qs (qr (oN 3 [(17, vi 0), (16, vi (x1.length : Int)), (15, .v (.slice a1_0 x1.length c1_0))] [5, 3, 2] ?_)))))
 refine oe (nt ?_)
 obtain ⟨r24, hL25, h26⟩ := bS h
 obtain ⟨k27, hk28, h26⟩ := brkS h26
 refine JC_cutP (τ := (Int) × (Unit)) (fun y => k27 y.1 = some r) (fun y32 => [(5, .p 2 0), (3, .p 1 0), (2, .p 0 0)]) (fun y32 => [(3, [.int .i64 x0]), (22, [.slice a1_0 x1.length c1_0]), (3, [.int .i64 y32.1])]) (fun y32 => []) ?_ (fun y32 h33p => ?_)
 · refine qb (lp Unit hL25 (fun s21 y22 => [(17, vi s21.1), (16, vi (x1.length : Int)), (15, .v (.slice a1_0 x1.length c1_0)), (5, .p 2 0), (3, .p 1 0), (2, .p 0 0)]) (fun s21 y22 => [(3, [.int .i64 x0]), (22, [.slice a1_0 x1.length c1_0]), (3, [.int .i64 s21.2])]) (fun s21 y22 => []) () [17, 16, 15, 5, 3, 2] [] 3 (fun s21 y22 t23 h29 hd30 => ?_))
   refine qs (qr (oN 1 [(18, vb (decide (s21.1 < (x1.length : Int))))] [17, 16, 15, 5, 3, 2] ?_))
   refine oe (nt (qs (cC h29 (fun h145 => ?_) (fun h146 => ?_))))
   · refine qk (nt (qs (qb (qs (qr ?_)))))
     obtain ⟨x147, hx148, h149⟩ := bS h145
     refine oi 1 (fun γ w hs => (hv1_0.kept hs.kept)) hx148 ?_
     refine ol 3 0 (.int .i64 x147) (fun γ w hs => (hv1_0.kept hs.kept).flatq hx148) ?_
     refine oN 1 [(7, vi x147)] [17, 16, 15, 5, 3, 2] ?_
     refine oe (nt (qr (oB 4 [] [17, 16, 15, 5, 3, 2] [(3, [.int .i64 x0]), (22, [.slice a1_0 x1.length c1_0]), (3, [.int .i64 (w64 (s21.2 + x147))])] ?_)))
     refine oe (bn (nt (qr (oN 2 [(17, vi (w64 (s21.1 + 1)))] [16, 15, 5, 3, 2] ?_))))
     exact oe (ct h149 () [17, 16, 15, 5, 3, 2] [] 3)
   refine qx (nx (nx (bh ?_)))
   have h150 := leafB hd30 h146 h26
   exact mp (s21.2, ()) h150 [5, 3, 2] [] 3
 have h33 := (congrFun hk28 _).symm.trans h33p
 refine nt (qs (qs ?_))
 obtain ⟨p34, hE35, h36⟩ := bS h33
 refine JC_cut (τ := Unit) (fun _ => [(2, .p 0 0), (3, .p 1 0), (5, .p 2 0), (42, vb p34)]) (fun _ => [(3, [.int .i64 x0]), (22, [.slice a1_0 x1.length c1_0]), (3, [.int .i64 y32.1])]) (fun _ => []) ?_ (fun _ => ?_)
 · refine qr (oN 1 [(25, vi x0)] [5, 3, 2] ?_)
   obtain ⟨t37, h38, h39⟩ := bS hE35
   refine k0 (fun γ w hs => c_impl_within h38) ?_
   refine oN 2 [(28, vb (!t37))] [5, 3, 2] ?_
   refine oS 28 h39 (fun h42 => ?_) (fun h43 => ?_)
   · refine oN 14 [(42, vb true)] [5, 3, 2] ?_
     refine oe ?_
     obtain rfl := sI h42
     exact mt () [2, 3, 5, 42] [] 3
   refine oN 2 [(30, vi (x1.length : Int))] [28, 5, 3, 2] ?_
   obtain ⟨t44, h45, h46⟩ := bS h43
   refine k0 (fun γ w hs => c_impl_within h45) ?_
   refine oN 3 [(34, vb (!t44))] [5, 3, 2] ?_
   refine oS 34 h46 (fun h49 => ?_) (fun h50 => ?_)
   · refine oN 8 [(42, vb true)] [5, 3, 2] ?_
     refine oe ?_
     obtain rfl := sI h49
     exact mt () [2, 3, 5, 42] [] 3
   refine oN 1 [(35, .v (.slice a1_0 x1.length c1_0))] [34, 5, 3, 2] ?_
   obtain ⟨t51, h52, h53⟩ := bS h50
   refine k0 (fun γ w hs => c_impl_allWithin h52 (hv1_0.kept hs.kept)) ?_
   refine oN 3 [(39, vb (!t51))] [5, 3, 2] ?_
   refine oS 39 h53 (fun h56 => ?_) (fun h57 => ?_)
   · refine oN 3 [(42, vb true)] [5, 3, 2] ?_
     refine oe ?_
     obtain rfl := sI h56
     exact mt () [2, 3, 5, 42] [] 3
   refine oN 3 [(42, vb (y32.1 == 0))] [5, 3, 2] ?_
   refine oe ?_
   obtain rfl := sI h57
   exact mt () [2, 3, 5, 42] [] 3
 refine nt (cC h36 (fun h59 => ?_) (fun h60 => ?_))
 · refine qs (qr (oN 1 [(4, .v (.slice none 0 0))] [] ?_))
   refine oe (nt (qe (nr (JE_addnil 3 (List.nil (α := Int)) rfl ?_))))
   refine rt [.slice none 0 0] (fun γ w hs => ?_)
   rw [← sI h59]
   exact ⟨(none, 0), rfl, hs.kept.toBelow, (hs.takeR (is := [0]) rfl).fresh⟩
 refine qk (nt (qs (qr (ob [] [] 3 0 [] ([] : List Int) (own_flat (by kernel_rfl)) (fun y61 => ?_)))))
 refine oN 1 [(8, .v (.slice y61.1 ([] : List Int).length y61.2))] [2, 3, 5] ?_
 refine oe (nt (qs (qr (ob [] [SlRes 3 ([] : List Int) y61.1 y61.2] 3 0 [] ([] : List Int) (own_flat (by kernel_rfl)) (fun y63 => ?_)))))
 refine oN 1 [(9, .v (.slice y63.1 ([] : List Int).length y63.2))] [8, 2, 3, 5] ?_
 refine oe (nt (qs (qr (oN 2 [(10, vi x0)] [9, 8, 2, 3, 5] ?_))))
 refine oe (nt (qs (qs (qr (oN 3 [(48, vi 0), (47, vi (x1.length : Int)), (46, .v (.slice a1_0 x1.length c1_0))] [10, 9, 8, 2, 3, 5] ?_)))))
 refine oe (nt ?_)
 obtain ⟨r68, hL69, h70⟩ := bS h60
 obtain ⟨k71, hk72, h70⟩ := brkS h70
 refine JC_cutP (τ := (Int × (List Int) × (List Int)) × (AC × AC)) (fun y => k71 y.1 = some r) (fun y76 => [(10, vi y76.1.1), (9, .v (.slice y76.2.1.1 y76.1.2.1.length y76.2.1.2)), (8, .v (.slice y76.2.2.1 y76.1.2.2.length y76.2.2.2)), (2, .p 0 0), (3, .p 1 0), (5, .p 2 0)]) (fun y76 => [(3, [.int .i64 x0]), (22, [.slice a1_0 x1.length c1_0]), (3, [.int .i64 y32.1])]) (fun y76 => [SlRes 3 y76.1.2.1 y76.2.1.1 y76.2.1.2, SlRes 3 y76.1.2.2 y76.2.2.1 y76.2.2.2]) ?_ (fun y76 h77p => ?_)
 · refine qb (lp (AC × AC) hL69 (fun s65 y66 => [(48, vi s65.1), (47, vi (x1.length : Int)), (46, .v (.slice a1_0 x1.length c1_0)), (10, vi s65.2.1), (9, .v (.slice y66.1.1 s65.2.2.1.length y66.1.2)), (8, .v (.slice y66.2.1 s65.2.2.2.length y66.2.2)), (2, .p 0 0), (3, .p 1 0), (5, .p 2 0)]) (fun s65 y66 => [(3, [.int .i64 x0]), (22, [.slice a1_0 x1.length c1_0]), (3, [.int .i64 y32.1])]) (fun s65 y66 => [SlRes 3 s65.2.2.1 y66.1.1 y66.1.2, SlRes 3 s65.2.2.2 y66.2.1 y66.2.2]) ((y63.1, y63.2), (y61.1, y61.2)) [48, 47, 46, 10, 9, 8, 2, 3, 5] [0, 0] 3 (fun s65 y66 t67 h73 hd74 => ?_))
   refine qs (qr (oN 1 [(49, vb (decide (s65.1 < (x1.length : Int))))] [48, 47, 46, 10, 9, 8, 2, 3, 5] ?_))
   refine oe (nt (qs (cC h73 (fun h120 => ?_) (fun h121 => ?_))))
   · refine qk (nt (qs (qb (qs (qr (oN 1 [(50, vi s65.1)] [48, 47, 46, 10, 9, 8, 2, 3, 5] ?_))))))
     obtain ⟨x122, hx123, h124⟩ := bS h120
     refine oi 1 (fun γ w hs => (hv1_0.kept hs.kept)) hx123 ?_
     refine ol 3 0 (.int .i64 x122) (fun γ w hs => (hv1_0.kept hs.kept).flatq hx123) ?_
     refine oN 2 [(12, vi x122), (11, vi s65.1)] [48, 47, 46, 10, 9, 8, 2, 3, 5] ?_
     refine oe (nt (qs (qr (oN 5 [(57, vi y32.1), (56, vi (w64 (x0 * x122))), (53, .v (.slice y66.2.1 s65.2.2.2.length y66.2.2))] [11, 48, 47, 46, 10, 9, 2, 3, 5] ?_))))
     obtain ⟨u127, hz126, h125⟩ := bS h124
     refine JO_div rfl (by kernel_rfl) (op := .quo) (k := .i64) (x := (w64 (x0 * x122))) (y := y32.1) (by kernel_rfl) (nz_some hz126) rfl ?_
     refine ob [] [SlRes 3 s65.2.2.1 y66.1.1 y66.1.2, SlRes 3 s65.2.2.2 y66.2.1 y66.2.2] 3 1 [.int .i64 (w64 (Int.tdiv (w64 (x0 * x122)) y32.1))] ([w64 (Int.tdiv (w64 (x0 * x122)) y32.1)] : List Int) (own_flat (by kernel_rfl)) (fun y128 => ?_)
     refine or_ [2, 0, 0] ?_
     obtain ⟨l131, hm132, h133⟩ := bS h125
     refine oa 22 y128.2 Try.t3 (.int .i64 0) (fun γ w hs => ⟨y128.2, (hs.view 1 rfl)⟩) hm132 (fun y130 => ?_)
     refine oN 1 [(8, .v (.slice y130.1 l131.length y130.2))] [11, 48, 47, 46, 10, 9, 2, 3, 5] ?_
     refine oe (nt (qs (qr (oN 2 [(62, vi s65.1), (61, .v (.slice y66.1.1 s65.2.2.1.length y66.1.2))] [8, 11, 48, 47, 46, 10, 2, 3, 5] ?_))))
     refine ob [] [SlRes 3 l131 y130.1 y130.2, SlRes 3 ([w64 (Int.tdiv (w64 (x0 * x122)) y32.1)] : List Int) y128.1 y128.2, SlRes 3 s65.2.2.1 y66.1.1 y66.1.2] 3 1 [.int .i64 s65.1] ([s65.1] : List Int) (own_flat (by kernel_rfl)) (fun y134 => ?_)
     refine or_ [3, 0, 0, 0] ?_
     obtain ⟨l137, hm138, h139⟩ := bS h133
     refine oa 22 y134.2 Try.t3 (.int .i64 0) (fun γ w hs => ⟨y134.2, (hs.view 1 rfl)⟩) hm138 (fun y136 => ?_)
     refine oN 1 [(9, .v (.slice y136.1 l137.length y136.2))] [8, 11, 48, 47, 46, 10, 2, 3, 5] ?_
     refine oe (nt (qr (oN 3 [(67, vi s65.1), (66, .v (.slice y130.1 l131.length y130.2)), (65, vi s65.2.1)] [9, 8, 48, 47, 46, 2, 3, 5] ?_)))
     obtain ⟨x140, hx141, h142⟩ := bS h139
     refine oi 1 (fun γ w hs => (hs.view 2 rfl)) hx141 ?_
     refine ol 3 0 (.int .i64 x140) (fun γ w hs => (hs.view 2 rfl).flatq hx141) ?_
     refine oN 2 [(10, vi (w64 (s65.2.1 - x140)))] [9, 8, 48, 47, 46, 2, 3, 5] ?_
     refine oe (bn (nt (qr (oN 2 [(48, vi (w64 (s65.1 + 1)))] [10, 9, 8, 47, 46, 2, 3, 5] ?_))))
     exact oe (ct h142 ((y136.1, y136.2), (y130.1, y130.2)) [48, 47, 46, 10, 9, 8, 2, 3, 5] [0, 1] 3)
   refine qx (nx (nx (bh ?_)))
   have h143 := leafB hd74 h121 h70
   exact mp ((s65.2.1, s65.2.2.1, s65.2.2.2), ((y66.1.1, y66.1.2), (y66.2.1, y66.2.2))) h143 [10, 9, 8, 2, 3, 5] [0, 0] 3
 have h77 := (congrFun hk72 _).symm.trans h77p
 refine nt (qs (qr (oN 1 [(72, .v (.slice y76.2.1.1 y76.1.2.1.length y76.2.1.2))] [10, 9, 8, 2, 3, 5] ?_)))
 refine JO_mkfunc rfl (by kernel_rfl) (x := .f 35 [(0, 0), (1, 0), (2, 0)]) (by kernel_rfl) rfl ?_
 obtain ⟨t78, h79, h80⟩ := bS h77
 obtain ⟨u82, hu83, h84⟩ := bS h80
 have hl85 := (sameLen_some hu83).symm
 refine JO_callMQ rfl (by kernel_rfl) (f := 34) (C := fun γ => (fun w => ∀ (q0 : Int) (q1 : Int) (r : Int), impl_Allocate_1 q0 q1 x0 x1 y32.1 = some r → Gives0 Try.prog 35 #[.int .i64 q0, .int .i64 q1, .pointer (some ⟨γ.getD 0 0, 0, none⟩), .pointer (some ⟨γ.getD 1 0, 0, none⟩), .pointer (some ⟨γ.getD 2 0, 0, none⟩)] w (.int .i64 r))) (args := fun γ => #[.slice y76.2.1.1 y76.1.2.1.length y76.2.1.2, .func (.func 35) #[] #[.pointer (some ⟨γ.getD 0 0, 0, none⟩), .pointer (some ⟨γ.getD 1 0, 0, none⟩), .pointer (some ⟨γ.getD 2 0, 0, none⟩)]]) (fun γ => by kernel_rfl) (x := .tuple #[]) (Rin := [SlRes 3 y76.1.2.1 y76.2.1.1 y76.2.1.2]) (Rout := [SlRes 3 t78 y76.2.1.1 y76.2.1.2]) (Rr := [SlRes 3 y76.1.2.2 y76.2.2.1 y76.2.2.2]) rfl (fun γ w hs => (by have vv := c_slices_SortStableFunc_int__impl_Allocate_1 (e0_0 := 3) (a0_0 := y76.2.1.1) (c0_0 := y76.2.1.2) (g1_0 := (γ.getD 0 0)) (g1_1 := (γ.getD 1 0)) (g1_2 := (γ.getD 2 0)) (W := w) h79; exact vv)) (fun γ w hk hb q0 q1 r hr => by have vv := c_impl_Allocate_1 (W := w) hr (hb.cellsAt (k := 0) (e := 3) (by kernel_rfl)) (hv1_0.kept hk) (hb.cellsAt (k := 1) (e := 22) (by kernel_rfl)) (hb.cellsAt (k := 2) (e := 3) (by kernel_rfl)); exact vv) (sl' := [(74, .v (.tuple #[])), (73, .f 35 [(0, 0), (1, 0), (2, 0)]), (72, .v (.slice y76.2.1.1 y76.1.2.1.length y76.2.1.2)), (10, vi y76.1.1), (9, .v (.slice y76.2.1.1 y76.1.2.1.length y76.2.1.2)), (8, .v (.slice y76.2.2.1 y76.1.2.2.length y76.2.2.2)), (2, .p 0 0), (3, .p 1 0), (5, .p 2 0)]) (by kernel_rfl) ?_
 refine JO_eqE (sl' := [(74, .v (.tuple #[])), (73, .f 35 [(0, 0), (1, 0), (2, 0)]), (72, .v (.slice y76.2.1.1 t78.length y76.2.1.2)), (10, vi y76.1.1), (9, .v (.slice y76.2.1.1 t78.length y76.2.1.2)), (8, .v (.slice y76.2.2.1 y76.1.2.2.length y76.2.2.2)), (2, .p 0 0), (3, .p 1 0), (5, .p 2 0)]) (bx' := [(3, [.int .i64 x0]), (22, [.slice a1_0 x1.length c1_0]), (3, [.int .i64 y32.1])]) (by simp only [hl85]) rfl ?_
 refine oe (nt (qs (qs (qr (oN 2 [(76, vi y76.1.1), (75, .v (.slice y76.2.1.1 t78.length y76.2.1.2))] [8] ?_)))))
 obtain ⟨l86, hm87, h88⟩ := bS h84
 refine JO_headR (α := Int) rfl (by kernel_rfl) (a0 := y76.2.1.1) (n0 := t78.length) (c0 := y76.2.1.2) (hi := y76.1.1) (by kernel_rfl) hm87 (Rr := [SlRes 3 y76.1.2.2 y76.2.2.1 y76.2.2.2]) rfl (sl' := [(77, .v (.slice y76.2.1.1 l86.length y76.2.1.2)), (76, vi y76.1.1), (75, .v (.slice y76.2.1.1 t78.length y76.2.1.2)), (8, .v (.slice y76.2.2.1 y76.1.2.2.length y76.2.2.2))]) (by kernel_rfl) ?_
 refine JO_keep [77, 76, 8] (sl' := [(77, .v (.slice y76.2.1.1 l86.length y76.2.1.2)), (76, vi y76.1.1), (8, .v (.slice y76.2.2.1 y76.1.2.2.length y76.2.2.2))]) (by kernel_rfl) ?_
 refine oN 2 [(79, vi 0), (78, vi (l86.length : Int))] [77, 8] ?_
 refine oe (nt ?_)
 obtain ⟨r92, hL93, h94⟩ := bS h88
 obtain ⟨k95, hk96, h94⟩ := brkS h94
 refine JC_cutP (τ := ((List Int)) × (Unit)) (fun y => k95 y.1 = some r) (fun y100 => [(8, .v (.slice y76.2.2.1 y100.1.length y76.2.2.2))]) (fun y100 => [(3, [.int .i64 x0]), (22, [.slice a1_0 x1.length c1_0]), (3, [.int .i64 y32.1])]) (fun y100 => [SlRes 3 y100.1 y76.2.2.1 y76.2.2.2]) ?_ (fun y100 h101p => ?_)
 · refine qb (lp Unit hL93 (fun s89 y90 => [(79, vi s89.1), (78, vi (l86.length : Int)), (77, .v (.slice y76.2.1.1 l86.length y76.2.1.2)), (8, .v (.slice y76.2.2.1 s89.2.length y76.2.2.2))]) (fun s89 y90 => [(3, [.int .i64 x0]), (22, [.slice a1_0 x1.length c1_0]), (3, [.int .i64 y32.1])]) (fun s89 y90 => [SlRes 3 l86 y76.2.1.1 y76.2.1.2, SlRes 3 s89.2 y76.2.2.1 y76.2.2.2]) () [79, 78, 77, 8] [0, 0] 3 (fun s89 y90 t91 h97 hd98 => ?_))
   refine qs (qr (oN 1 [(80, vb (decide (s89.1 < (l86.length : Int))))] [79, 78, 77, 8] ?_))
   refine oe (nt (qs (cC h97 (fun h103 => ?_) (fun h104 => ?_))))
   · refine qk (nt (qs (qb (qs (qr ?_)))))
     obtain ⟨x105, hx106, h107⟩ := bS h103
     refine oi 1 (fun γ w hs => (hs.view 0 rfl)) hx106 ?_
     refine ol 3 0 (.int .i64 x105) (fun γ w hs => (hs.view 0 rfl).flatq hx106) ?_
     refine oN 1 [(14, vi x105)] [79, 78, 77, 8] ?_
     refine oe (nt (qr (oN 2 [(84, vi x105), (83, .v (.slice y76.2.2.1 s89.2.length y76.2.2.2))] [79, 78, 77, 8] ?_)))
     obtain ⟨x108, hx109, h110⟩ := bS h107
     refine oi 1 (fun γ w hs => (hs.view 1 rfl)) hx109 ?_
     refine ol 3 0 (.int .i64 x108) (fun γ w hs => (hs.view 1 rfl).flatq hx109) ?_
     refine oN 1 [(87, vi (w64 (x108 + 1)))] [84, 83, 79, 78, 77, 8] ?_
     obtain ⟨x111, hx112, h113⟩ := bS h110
     refine oi 1 (fun γ w hs => (hs.view 1 rfl)) hx112 ?_
     refine or_ [1, 0] ?_
     obtain ⟨l114, hm115, h116⟩ := bS h113
     replace hm115 := (sI hm115).symm
     refine JO_storeq (α := Int) (d := y76.2.2.1) (vs := [.int .i64 (w64 (x108 + 1))]) (j := x105) (x' := (w64 (x108 + 1))) rfl (by kernel_rfl) 0 (by kernel_rfl) hx112 (Rc := []) (Rr := [SlRes 3 l86 y76.2.1.1 y76.2.1.2]) rfl (by kernel_rfl) (fun w c F Fs ho _ _ => own_flat_set (by kernel_rfl) ho) hm115 rfl ?_
     have hl117 := len_set hm115
     refine JO_keep [87, 84, 83, 79, 78, 77, 8] (sl' := [(87, vi (w64 (x108 + 1))), (84, vi x105), (83, .v (.slice y76.2.2.1 s89.2.length y76.2.2.2)), (79, vi s89.1), (78, vi (l86.length : Int)), (77, .v (.slice y76.2.1.1 l86.length y76.2.1.2)), (8, .v (.slice y76.2.2.1 s89.2.length y76.2.2.2))]) (by kernel_rfl) ?_
     refine JO_eqE (sl' := [(87, vi (w64 (x108 + 1))), (84, vi x105), (83, .v (.slice y76.2.2.1 l114.length y76.2.2.2)), (79, vi s89.1), (78, vi (l86.length : Int)), (77, .v (.slice y76.2.1.1 l86.length y76.2.1.2)), (8, .v (.slice y76.2.2.1 l114.length y76.2.2.2))]) (bx' := [(3, [.int .i64 x0]), (22, [.slice a1_0 x1.length c1_0]), (3, [.int .i64 y32.1])]) (by simp only [hl117]) rfl ?_
     refine oe (bn (nt (qr (oN 2 [(79, vi (w64 (s89.1 + 1)))] [78, 77, 8] ?_))))
     exact oe (ct h116 () [79, 78, 77, 8] [1, 0] 3)
   refine qx (nx (nx (bh ?_)))
   have h118 := leafB hd98 h104 h94
   exact mp (s89.2, ()) h118 [8] [1] 3
 have h101 := (congrFun hk96 _).symm.trans h101p
 refine nt (qs (qr (oN 2 [(4, .v (.slice y76.2.2.1 y100.1.length y76.2.2.2))] [] ?_)))
 refine oe (nt (qe (rt [.slice y76.2.2.1 y100.1.length y76.2.2.2] (fun γ w hs => ?_))))
 rw [← sI h101]
 exact ⟨y76.2.2, rfl, hs.kept.toBelow, (hs.takeR (is := [0]) rfl).fresh⟩

theorem c_impl_CutAll {W : World} {x0 : List Int} {a0_0 : Option Addr} {c0_0 : Nat} {x1 : Int} {r : (List Int)} (h : impl_CutAll x0 x1 = some r) (hv0_0 : SlView W x0 a0_0 c0_0) :
    Gives Try.prog 9 #[.slice a0_0 x0.length c0_0, .int .i64 x1] W (fun y : AC => .slice y.1 r.length y.2) (fun y => [SlRes 3 r y.1 y.2]) := by
 unfold impl_CutAll at h
 refine en Try.func9 Try.ntmps9 ?_
 refine qs (qr (oN 1 [] [0, 1] ?_))
 refine oe (nt (qs (qs ?_)))
 obtain ⟨p21, hE22, h23⟩ := bS h
 refine JC_cut (τ := Unit) (fun _ => [(0, .v (.slice a0_0 x0.length c0_0)), (1, vi x1), (15, vb p21)]) (fun _ => []) (fun _ => []) ?_ (fun _ => ?_)
 · refine qr (oN 1 [(8, .v (.slice a0_0 x0.length c0_0))] [0, 1] ?_)
   obtain ⟨t24, h25, h26⟩ := bS hE22
   refine k0 (fun γ w hs => c_impl_arePensions h25 (hv0_0.kept hs.kept)) ?_
   refine oN 2 [(11, vb (!t24))] [0, 1] ?_
   refine oS 11 h26 (fun h29 => ?_) (fun h30 => ?_)
   · refine oN 4 [(15, vb true)] [0, 1] ?_
     refine oe ?_
     obtain rfl := sI h29
     exact mt () [0, 1, 15] [] 0
   refine oN 1 [(12, vi x1)] [11, 0, 1] ?_
   obtain ⟨t31, h32, h33⟩ := bS h30
   refine k0 (fun γ w hs => c_impl_within h32) ?_
   refine oN 2 [(15, vb (!t31))] [0, 1] ?_
   refine oe ?_
   obtain rfl := sI h33
   exact mt () [0, 1, 15] [] 0
 refine nt (cC h23 (fun h36 => ?_) (fun h37 => ?_))
 · refine qs (qr (oN 1 [(4, .v (.slice none 0 0))] [] ?_))
   refine oe (nt (qe (nr (JE_addnil 3 (List.nil (α := Int)) rfl ?_))))
   refine rt [.slice none 0 0] (fun γ w hs => ?_)
   rw [← sI h36]
   exact ⟨(none, 0), rfl, hs.kept.toBelow, (hs.takeR (is := [0]) rfl).fresh⟩
 refine qk (nt (qs (qr (oN 1 [(16, .v (.slice a0_0 x0.length c0_0))] [0, 1] ?_))))
 obtain ⟨t38, h39, h40⟩ := bS h37
 refine k1 (fun γ w hs => c_slices_Clone_int h39 (hv0_0.kept hs.kept)) (fun y41 => ?_)
 refine oN 1 [(5, .v (.slice y41.1 t38.length y41.2))] [0, 1] ?_
 refine oe (nt (qs (qs (qr (oN 1 [(18, .v (.slice a0_0 x0.length c0_0))] [5, 0, 1] ?_)))))
 obtain ⟨t42, h43, h44⟩ := bS h40
 refine k0 (fun γ w hs => c_impl_total h43 (hv0_0.kept hs.kept)) ?_
 refine oN 4 [(23, .v (.slice a0_0 x0.length c0_0)), (22, vi (w64 (Int.tdiv (w64 (t42 * x1)) 1000)))] [5] ?_
 obtain ⟨t46, h47, h48⟩ := bS h44
 refine k1 (fun γ w hs => c_impl_Allocate h47 (hv0_0.kept hs.kept)) (fun y49 => ?_)
 refine oN 2 [(26, vi 0), (25, vi (t46.length : Int))] [24, 5] ?_
 refine oe (nt ?_)
 obtain ⟨r53, hL54, h55⟩ := bS h48
 obtain ⟨k56, hk57, h55⟩ := brkS h55
 refine JC_cutP (τ := ((List Int)) × (Unit)) (fun y => k56 y.1 = some r) (fun y61 => [(5, .v (.slice y41.1 y61.1.length y41.2))]) (fun y61 => []) (fun y61 => [SlRes 3 y61.1 y41.1 y41.2]) ?_ (fun y61 h62p => ?_)
 · refine qb (lp Unit hL54 (fun s50 y51 => [(26, vi s50.1), (25, vi (t46.length : Int)), (24, .v (.slice y49.1 t46.length y49.2)), (5, .v (.slice y41.1 s50.2.length y41.2))]) (fun s50 y51 => []) (fun s50 y51 => [SlRes 3 t46 y49.1 y49.2, SlRes 3 s50.2 y41.1 y41.2]) () [26, 25, 24, 5] [0, 0] 0 (fun s50 y51 t52 h58 hd59 => ?_))
   refine qs (qr (oN 1 [(27, vb (decide (s50.1 < (t46.length : Int))))] [26, 25, 24, 5] ?_))
   refine oe (nt (qs (cC h58 (fun h64 => ?_) (fun h65 => ?_))))
   · refine qk (nt (qs (qb (qs (qr (oN 1 [(28, vi s50.1)] [26, 25, 24, 5] ?_))))))
     obtain ⟨x66, hx67, h68⟩ := bS h64
     refine oi 1 (fun γ w hs => (hs.view 0 rfl)) hx67 ?_
     refine ol 3 0 (.int .i64 x66) (fun γ w hs => (hs.view 0 rfl).flatq hx67) ?_
     refine oN 2 [(7, vi x66), (6, vi s50.1)] [26, 25, 24, 5] ?_
     refine oe (nt (qr (oN 2 [(32, vi s50.1), (31, .v (.slice y41.1 s50.2.length y41.2))] [7, 26, 25, 24, 5] ?_)))
     obtain ⟨x69, hx70, h71⟩ := bS h68
     refine oi 1 (fun γ w hs => (hs.view 1 rfl)) hx70 ?_
     refine ol 3 0 (.int .i64 x69) (fun γ w hs => (hs.view 1 rfl).flatq hx70) ?_
     refine oN 2 [(36, vi (w64 (x69 - x66)))] [32, 31, 26, 25, 24, 5] ?_
     obtain ⟨x72, hx73, h74⟩ := bS h71
     refine oi 1 (fun γ w hs => (hs.view 1 rfl)) hx73 ?_
     refine or_ [1, 0] ?_
     obtain ⟨l75, hm76, h77⟩ := bS h74
     replace hm76 := (sI hm76).symm
     refine JO_storeq (α := Int) (d := y41.1) (vs := [.int .i64 (w64 (x69 - x66))]) (j := s50.1) (x' := (w64 (x69 - x66))) rfl (by kernel_rfl) 0 (by kernel_rfl) hx73 (Rc := []) (Rr := [SlRes 3 t46 y49.1 y49.2]) rfl (by kernel_rfl) (fun w c F Fs ho _ _ => own_flat_set (by kernel_rfl) ho) hm76 rfl ?_
     have hl78 := len_set hm76
     refine JO_keep [36, 32, 31, 26, 25, 24, 5] (sl' := [(36, vi (w64 (x69 - x66))), (32, vi s50.1), (31, .v (.slice y41.1 s50.2.length y41.2)), (26, vi s50.1), (25, vi (t46.length : Int)), (24, .v (.slice y49.1 t46.length y49.2)), (5, .v (.slice y41.1 s50.2.length y41.2))]) (by kernel_rfl) ?_
     refine JO_eqE (sl' := [(36, vi (w64 (x69 - x66))), (32, vi s50.1), (31, .v (.slice y41.1 l75.length y41.2)), (26, vi s50.1), (25, vi (t46.length : Int)), (24, .v (.slice y49.1 t46.length y49.2)), (5, .v (.slice y41.1 l75.length y41.2))]) (bx' := []) (by simp only [hl78]) rfl ?_
     refine oe (bn (nt (qr (oN 2 [(26, vi (w64 (s50.1 + 1)))] [25, 24, 5] ?_))))
     exact oe (ct h77 () [26, 25, 24, 5] [1, 0] 0)
   refine qx (nx (nx (bh ?_)))
   have h79 := leafB hd59 h65 h55
   exact mp (s50.2, ()) h79 [5] [1] 0
 have h62 := (congrFun hk57 _).symm.trans h62p
 refine nt (qs (qr (oN 2 [(4, .v (.slice y41.1 y61.1.length y41.2))] [] ?_)))
 refine oe (nt (qe (rt [.slice y41.1 y61.1.length y41.2] (fun γ w hs => ?_))))
 rw [← sI h62]
 exact ⟨y41, rfl, hs.kept.toBelow, (hs.takeR (is := [0]) rfl).fresh⟩

theorem c_laws_FnIndexed {W : World} {x0 : List U8} {a0_0 : Option Addr} {c0_0 : Nat} {r : Bool} (h : laws_FnIndexed x0 = some r) (hv0_0 : SlView W x0 a0_0 c0_0) :
    Gives0 Try.prog 6 #[.slice a0_0 x0.length c0_0] W (.bool r) := by
 unfold laws_FnIndexed at h
 refine en Try.func6 Try.ntmps6 ?_
 refine qs (qr (oN 1 [] [0] ?_))
 refine oe (nt (qs (qs (qr (oN 1 [(7, .v (.slice a0_0 x0.length c0_0))] [0] ?_)))))
 obtain ⟨t21, h22, h23⟩ := bS h
 refine k0 (fun γ w hs => c_laws_big h22 (hv0_0.kept hs.kept)) ?_
 refine oe (nt (cC h23 (fun h26 => ?_) (fun h27 => ?_)))
 · refine qs (qr (oN 1 [(2, vb true)] [] ?_))
   refine oe (nt (qe (nr ?_)))
   obtain rfl := sI h26
   exact re [.bool true]
 refine qk (nt (qs (qr (oN 1 [(9, .v (.slice a0_0 x0.length c0_0))] [0] ?_))))
 obtain ⟨t28, h29, h30⟩ := bS h27
 refine k1 (fun γ w hs => c_spec_DrawPensions h29 (hv0_0.kept hs.kept)) (fun y31 => ?_)
 refine oN 1 [(3, .v (.slice y31.1 t28.length y31.2))] [0] ?_
 refine oe (nt (qs (qr (oN 1 [(11, .v (.slice a0_0 x0.length c0_0))] [3] ?_))))
 obtain ⟨t32, h33, h34⟩ := bS h30
 refine k1 (fun γ w hs => c_spec_DrawPlaces h33 (hv0_0.kept hs.kept)) (fun y35 => ?_)
 refine oN 1 [(4, .v (.slice y35.1 t32.length y35.2))] [3] ?_
 refine oe (nt (qs (qr (oN 1 [(13, .v (.slice y35.1 t32.length y35.2))] [4, 3] ?_))))
 obtain ⟨x36, hx37, h38⟩ := bS h34
 refine oi 1 (fun γ w hs => (hs.view 0 rfl)) hx37 ?_
 refine ol 3 0 (.int .i64 x36) (fun γ w hs => (hs.view 0 rfl).flatq hx37) ?_
 refine oN 2 [(5, vi (Int.tmod x36 1200))] [4, 3] ?_
 refine oe (nt (qs (qr (oN 1 [(17, .v (.slice y35.1 t32.length y35.2))] [5, 3] ?_))))
 obtain ⟨x39, hx40, h41⟩ := bS h38
 refine oi 1 (fun γ w hs => (hs.view 0 rfl)) hx40 ?_
 refine ol 3 0 (.int .i64 x39) (fun γ w hs => (hs.view 0 rfl).flatq hx40) ?_
 refine oN 2 [(6, vi (Int.tmod x39 200))] [5, 3] ?_
 refine oe (nt (qs ?_))
 obtain ⟨p42, hE43, h44⟩ := bS h41
 refine JC_cut (τ := Unit) (fun _ => [(2, vb p42)]) (fun _ => []) (fun _ => []) ?_ (fun _ => ?_)
 · refine qr (oN 3 [(23, vi (Int.tmod x39 200)), (22, vi (w64 (2 * (Int.tmod x36 1200))))] [6, 5, 3] ?_)
   obtain ⟨t45, h46, h47⟩ := bS hE43
   refine k0 (fun γ w hs => c_impl_AdjustRate h46) ?_
   refine oN 2 [(26, vi (Int.tmod x39 200)), (25, vi (Int.tmod x36 1200))] [24, 6, 3] ?_
   obtain ⟨t49, h50, h51⟩ := bS h47
   refine k0 (fun γ w hs => c_impl_AdjustRate h50) ?_
   refine oN 2 [(29, vb (decide (t45 ≥ t49)))] [6, 3] ?_
   refine oS 29 h51 (fun h54 => ?_) (fun h55 => ?_)
   · refine oN 1 [(30, .v (.slice y31.1 t28.length y31.2))] [29, 6, 3] ?_
     obtain ⟨t56, h57, h58⟩ := bS h54
     refine k1 (fun γ w hs => c_impl_RaiseAll h57 (hs.view 1 rfl)) (fun y59 => ?_)
     refine oN 1 [(32, .v (.slice y31.1 t28.length y31.2))] [31, 29, 6, 3] ?_
     obtain ⟨t60, h61, h62⟩ := bS h58
     refine k0 (fun γ w hs => c_laws_sameInts h61 (hs.view 0 rfl) (hs.view 2 rfl)) ?_
     refine oN 2 [(35, vb t60)] [6, 3] ?_
     refine oS 35 h62 (fun h65 => ?_) (fun h66 => ?_)
     · refine oN 1 [(36, .v (.slice y31.1 t28.length y31.2))] [35, 6, 3] ?_
       obtain ⟨t67, h68, h69⟩ := bS h65
       refine k1 (fun γ w hs => c_impl_CutAll h68 (hs.view 2 rfl)) (fun y70 => ?_)
       refine oN 1 [(38, .v (.slice y31.1 t28.length y31.2))] [37, 35, 6] ?_
       obtain ⟨t71, h72, h73⟩ := bS h69
       refine k0 (fun γ w hs => c_laws_sameInts h72 (hs.view 0 rfl) (hs.view 3 rfl)) ?_
       refine oN 2 [(41, vb t71)] [6] ?_
       refine oS 41 h73 (fun h76 => ?_) (fun h77 => ?_)
       · refine oN 1 [(42, vi (Int.tmod x39 200))] [41, 6] ?_
         obtain ⟨t78, h79, h80⟩ := bS h76
         refine k0 (fun γ w hs => c_impl_AdjustRate h79) ?_
         refine oN 4 [(47, vb (t78 == (Int.tmod x39 200)))] [6] ?_
         refine oS 47 h80 (fun h83 => ?_) (fun h84 => ?_)
         · refine oN 1 [(48, vi (Int.tmod x39 200))] [47] ?_
           obtain ⟨t85, h86, h87⟩ := bS h83
           refine k0 (fun γ w hs => c_impl_AdjustRate h86) ?_
           refine oN 3 [(2, vb (t85 == 0))] [] ?_
           refine oe ?_
           obtain rfl := sI h87
           exact mt () [2] [] 0
         refine oN 5 [(2, vb false)] [] ?_
         refine oe ?_
         obtain rfl := sI h84
         exact mt () [2] [] 0
       refine oN 11 [(2, vb false)] [] ?_
       refine oe ?_
       obtain rfl := sI h77
       exact mt () [2] [] 0
     refine oN 17 [(2, vb false)] [] ?_
     refine oe ?_
     obtain rfl := sI h66
     exact mt () [2] [] 0
   refine oN 23 [(2, vb false)] [] ?_
   refine oe ?_
   obtain rfl := sI h55
   exact mt () [2] [] 0
 refine nt (qe ?_)
 obtain rfl := sI h44
 exact re [.bool p42]
end Go.Pen
