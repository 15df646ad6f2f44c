/-
  Each Go function does what its plain function says: written by a program of ours.
-/
import Derived.Test.YtagenkhjchiigaaGreatW2
import Derived.Test.YtagenkhjchiigaaGreatProg
import Derived.Test.YtagenkhjchiigaaGreatPenK
import Derived.Test.YtagenkhjchiigaaGreatPenJ
import Derived.Test.YtagenkhjchiigaaGreatPenP
import Derived.Test.YtagenkhjchiigaaGreatPenQ
import Derived.Test.YtagenkhjchiigaaGreatPenU
namespace Go.Pen
open Go.Proofs Go.RowKit
set_option linter.unusedVariables false
set_option linter.unusedSimpArgs false
set_option maxRecDepth 100000
set_option maxHeartbeats 4000000

theorem c_impl_reduced {W : World} {x0 : Int} {x1 : Int} {r : Frac × Bool} (h : impl_reduced x0 x1 = some r)  :
    Gives0 Tryz.prog 131 #[.int .i64 x0, .int .i64 x1] W (.tuple #[vFrac r.1, .bool r.2]) := by
 unfold impl_reduced at h
 refine en Tryz.func131 Tryz.ntmps131 ?_
 refine qs (qr (oB 2 [(4, .p 0 0)] [0, 1] [(133, (eFrac (Frac.mk 0 0)))] ?_))
 refine oe (nt (qs (qs (qr (oN 2 [(9, vb (decide (x1 < 0)))] [4, 0, 1] ?_)))))
 refine oe (nt ?_)
 obtain ⟨k24, hk25, h45⟩ := jS h
 refine JC_cutP (τ := (Int × Int) × (Unit)) (fun y => k24 y.1 = some r) (fun y23 => [(4, .p 0 0), (0, vi y23.1.1), (1, vi y23.1.2)]) (fun y23 => [(133, (eFrac (Frac.mk 0 0)))]) (fun y23 => []) ?_ (fun y23 h26p => ?_)
 · refine cC h45 (fun h47 => ?_) (fun h48 => ?_)
   · refine qr (oN 6 [(1, vi (w64 (0 - x1))), (0, vi (w64 (0 - x0)))] [4] ?_)
     exact oe (mp ((w64 (0 - x0), w64 (0 - x1)), ()) h47 [4, 0, 1] [] 1)
   exact qk (mp ((x0, x1), ()) h48 [4, 0, 1] [] 1)
 have h26 := (congrFun hk25 _).symm.trans h26p
 refine nt (qs (qr (oN 2 [(15, vi y23.1.2), (14, vi y23.1.1)] [4, 0, 1] ?_)))
 obtain ⟨t27, h28, h29⟩ := bS h26
 refine k0 (fun γ w hs => c_impl_gcd h28) ?_
 refine oN 1 [(6, vi t27)] [4, 0, 1] ?_
 refine oe (nt (qs ?_))
 obtain ⟨u33, hz32, h31⟩ := bS h29
 obtain ⟨u36, hz35, h34⟩ := bS h31
 refine JC_cut (τ := Unit) (fun _ => [(7, .p 1 0), (4, .p 0 0)]) (fun _ => [(133, (eFrac (Frac.mk 0 0))), (133, (eFrac (Frac.mk (w64 (Int.tdiv y23.1.1 t27)) (w64 (Int.tdiv y23.1.2 t27)))))]) (fun _ => []) ?_ (fun _ => ?_)
 · refine jw [6, 4, 0, 1] [] ?_
   refine JC_heldN (ks := [0]) (Rk := []) 9 (by kernel_rfl) (by kernel_rfl) ?_
   refine htq 0 (vi y23.1.1) [] ?_
   refine hk [17, 6, 4, 1] ?_
   refine htq 1 (vi t27) [] ?_
   refine ht 2 (vi (w64 (Int.tdiv y23.1.1 t27))) [] (div_held (op := .quo) (k := .i64) (x := y23.1.1) (y := t27) (by kernel_rfl) (nz_some hz32)) ?_
   refine hk [19, 6, 4, 1] ?_
   refine htq 3 (vi y23.1.2) [] ?_
   refine hk [20, 19, 6, 4] ?_
   refine htq 4 (vi t27) [] ?_
   refine hk [21, 20, 19, 4] ?_
   refine ht 5 (vi (w64 (Int.tdiv y23.1.2 t27))) [] (div_held (op := .quo) (k := .i64) (x := y23.1.2) (y := t27) (by kernel_rfl) (nz_some hz35)) ?_
   refine hk [22, 19, 4] ?_
   refine htq 6 (.v (vFrac (Frac.mk (w64 (Int.tdiv y23.1.1 t27)) (w64 (Int.tdiv y23.1.2 t27))))) [] ?_
   refine hk [23, 4] ?_
   refine ha1 7 ?_
   refine hi (fun γ0 δ hm => ?_)
   refine gs [(7, .p 1 0), (23, .v (vFrac (Frac.mk (w64 (Int.tdiv y23.1.1 t27)) (w64 (Int.tdiv y23.1.2 t27))))), (4, .p 0 0)] [(133, (eFrac (Frac.mk 0 0))), (133, (eFrac (Frac.mk 0 0)))] (fun δ2 => ?_)
   refine gd hm [7, 23, 4] [] ?_
   refine ha1 8 ?_
   refine hi (fun γ0 δ hm => ?_)
   refine gs [(7, .p 1 0), (23, .v (vFrac (Frac.mk (w64 (Int.tdiv y23.1.1 t27)) (w64 (Int.tdiv y23.1.2 t27))))), (4, .p 0 0)] [(133, (eFrac (Frac.mk 0 0))), (133, (eFrac (Frac.mk (w64 (Int.tdiv y23.1.1 t27)) (w64 (Int.tdiv y23.1.2 t27)))))] (fun δ2 => ?_)
   refine gd hm [7, 4] [] ?_
   exact hd () [7, 4] [] 2
 refine nt (qs (qs (qr (oN 1 [(24, .v (vFrac (Frac.mk (w64 (Int.tdiv y23.1.1 t27)) (w64 (Int.tdiv y23.1.2 t27)))))] [7, 4] ?_))))
 obtain ⟨t38, h39, h40⟩ := bS h34
 refine k0 (fun γ w hs => c_impl_FracOk h39) ?_
 refine oN 1 [(26, vb (!t38))] [7, 4] ?_
 refine oe (nt (cC h40 (fun h43 => ?_) (fun h44 => ?_)))
 · refine qs (qr (oN 3 [(5, vb false)] [4] ?_))
   refine oe (nt (qe (nr ?_)))
   obtain rfl := sI h43
   exact re [vFrac (Frac.mk 0 0), .bool false]
 refine qk (nt (qs (qr (oB 3 [(5, vb true)] [4] [(133, (eFrac (Frac.mk (w64 (Int.tdiv y23.1.1 t27)) (w64 (Int.tdiv y23.1.2 t27))))), (133, (eFrac (Frac.mk (w64 (Int.tdiv y23.1.1 t27)) (w64 (Int.tdiv y23.1.2 t27)))))] ?_))))
 refine oe (nt (qe ?_))
 obtain rfl := sI h44
 exact re [vFrac (Frac.mk (w64 (Int.tdiv y23.1.1 t27)) (w64 (Int.tdiv y23.1.2 t27))), .bool true]

theorem c_impl_FracNew {W : World} {x0 : Int} {x1 : Int} {r : Frac × Bool} (h : impl_FracNew x0 x1 = some r)  :
    Gives0 Tryz.prog 182 #[.int .i64 x0, .int .i64 x1] W (.tuple #[vFrac r.1, .bool r.2]) := by
 unfold impl_FracNew at h
 refine en Tryz.func182 Tryz.ntmps182 ?_
 refine qs (qr (oB 2 [(4, .p 0 0)] [0, 1] [(133, (eFrac (Frac.mk 0 0)))] ?_))
 refine oe (nt (qs (qs ?_)))
 obtain ⟨p21, hE22, h23⟩ := bS h
 refine JC_cut (τ := Unit) (fun _ => [(0, vi x0), (1, vi x1), (4, .p 0 0), (17, vb p21)]) (fun _ => [(133, (eFrac (Frac.mk 0 0)))]) (fun _ => []) ?_ (fun _ => ?_)
 · refine qr (oN 3 [(8, vb (x1 == 0))] [4, 0, 1] ?_)
   refine oS 8 hE22 (fun h25 => ?_) (fun h26 => ?_)
   · refine oN 9 [(17, vb true)] [4, 0, 1] ?_
     refine oe ?_
     obtain rfl := sI h25
     exact mt () [0, 1, 4, 17] [] 1
   refine oN 1 [(9, vi x0)] [8, 4, 0, 1] ?_
   obtain ⟨t27, h28, h29⟩ := bS h26
   refine k0 (fun γ w hs => c_impl_within h28) ?_
   refine oN 3 [(13, vb (!t27))] [4, 0, 1] ?_
   refine oS 13 h29 (fun h32 => ?_) (fun h33 => ?_)
   · refine oN 4 [(17, vb true)] [4, 0, 1] ?_
     refine oe ?_
     obtain rfl := sI h32
     exact mt () [0, 1, 4, 17] [] 1
   refine oN 1 [(14, vi x1)] [13, 4, 0, 1] ?_
   obtain ⟨t34, h35, h36⟩ := bS h33
   refine k0 (fun γ w hs => c_impl_within h35) ?_
   refine oN 2 [(17, vb (!t34))] [4, 0, 1] ?_
   refine oe ?_
   obtain rfl := sI h36
   exact mt () [0, 1, 4, 17] [] 1
 refine nt (cC h23 (fun h39 => ?_) (fun h40 => ?_))
 · refine qs (qr (oN 3 [(5, vb false)] [4] ?_))
   refine oe (nt (qe (nr ?_)))
   obtain rfl := sI h39
   exact re [vFrac (Frac.mk 0 0), .bool false]
 refine qk (nt (qs (qr (oN 2 [(20, vi x1), (19, vi x0)] [4] ?_))))
 obtain ⟨t41, h42, h43⟩ := bS h40
 refine k0 (fun γ w hs => c_impl_reduced h42) ?_
 refine oB 4 [(5, vb t41.2)] [4] [(133, (eFrac t41.1))] ?_
 refine oe (nt (qe ?_))
 obtain rfl := sI h43
 exact re [vFrac t41.1, .bool t41.2]

theorem c_impl_IndexRatio {W : World} {x0 : Series} {a0_0 : Option Addr} {c0_0 : Nat} {x1 : Int} {x2 : Int} {x3 : Int} {r : Frac × Bool} (h : impl_IndexRatio x0 x1 x2 x3 = some r) (hv0_0 : SlView W x0.Points a0_0 c0_0) :
    Gives0 Tryz.prog 129 #[vSeries x0 (a0_0, c0_0), .int .i64 x1, .int .i64 x2, .int .i64 x3] W (.tuple #[vFrac r.1, .bool r.2]) := by
 unfold impl_IndexRatio at h
 refine en Tryz.func129 Tryz.ntmps129 ?_
 refine qs (qr (oB 3 [(8, .p 1 0), (4, .p 0 0)] [1, 2, 3] [(32, (eSeries x0 (a0_0, c0_0))), (133, (eFrac (Frac.mk 0 0)))] ?_))
 refine oe (nt (qs (qr (oN 3 [(17, vi x3), (16, vi x1), (15, .v (vSeries x0 (a0_0, c0_0)))] [8, 4, 2, 3] ?_))))
 obtain ⟨t21, h22, h23⟩ := bS h
 refine k0 (fun γ w hs => c_impl_IndexAt h22 (hv0_0.kept hs.kept)) ?_
 refine oN 5 [(11, vb t21.2), (10, vi t21.1)] [8, 4, 2, 3] ?_
 refine oe (nt (qs (qr (oN 3 [(24, vi x3), (23, vi x2), (22, .v (vSeries x0 (a0_0, c0_0)))] [11, 10, 8] ?_))))
 obtain ⟨t25, h26, h27⟩ := bS h23
 refine k0 (fun γ w hs => c_impl_IndexAt h26 (hv0_0.kept hs.kept)) ?_
 refine oN 5 [(13, vb t25.2), (12, vi t25.1)] [11, 10, 8] ?_
 refine oe (nt (qs (qs ?_)))
 obtain ⟨p29, hE30, h31⟩ := bS h27
 refine JC_cut (τ := Unit) (fun _ => [(8, .p 1 0), (10, vi t21.1), (12, vi t25.1), (33, vb p29)]) (fun _ => [(32, (eSeries x0 (a0_0, c0_0))), (133, (eFrac (Frac.mk 0 0)))]) (fun _ => []) ?_ (fun _ => ?_)
 · refine qr (oN 3 [(30, vb (!t21.2))] [13, 12, 10, 8] ?_)
   refine oS 30 hE30 (fun h33 => ?_) (fun h34 => ?_)
   · refine oN 3 [(33, vb true)] [12, 10, 8] ?_
     refine oe ?_
     obtain rfl := sI h33
     exact mt () [8, 10, 12, 33] [] 2
   refine oN 3 [(33, vb (!t25.2))] [12, 10, 8] ?_
   refine oe ?_
   obtain rfl := sI h34
   exact mt () [8, 10, 12, 33] [] 2
 refine nt (cC h31 (fun h36 => ?_) (fun h37 => ?_))
 · refine qs (qr (oN 3 [(9, vb false)] [8] ?_))
   refine oe (nt (qe (nr ?_)))
   obtain rfl := sI h36
   exact re [vFrac (Frac.mk 0 0), .bool false]
 refine qk (nt (qs (qr (oN 2 [(36, vi t21.1), (35, vi t25.1)] [8] ?_))))
 obtain ⟨t38, h39, h40⟩ := bS h37
 refine k0 (fun γ w hs => c_impl_FracNew h39) ?_
 refine oB 4 [(9, vb t38.2)] [8] [(32, (eSeries x0 (a0_0, c0_0))), (133, (eFrac t38.1))] ?_
 refine oe (nt (qe ?_))
 obtain rfl := sI h40
 exact re [vFrac t38.1, .bool t38.2]

/-- Which function value slices.Backward gives. -/
theorem back_Event_new (ad : Option Addr) (n cap : Nat) (w : World) : Calls Tryz.prog 183 #[.slice ad n cap] w fun e w' => e = .returned (.func (.func 201) #[] #[.pointer (some ⟨w.heap.size, 0, none⟩)]) ∧ w' = w.alloc (.cells #[.slice ad n cap] 34) := by
  refine (callsIn_wide (n := 5)).1 (callsIn_of_wp Tryz.func183 rfl trivial ?_ rfl)
  simp only [Tryz.ntmps183, List.size_toArray, List.length_cons, List.length_nil, Nat.reduceAdd, Nat.reduceSub, Array.replicate_succ, Array.replicate_zero, List.push_toArray, List.append_toArray, List.nil_append, List.cons_append]
  gi_wp2
  go_ret
  exact ⟨rfl, rfl⟩

set_option maxHeartbeats 1000000 in
/-- The iterator over a slice from its end. -/
theorem back_Event {W0 : World} {xs : List Event} {ad : Option Addr} {cap : Nat} (hv : SlView W0 xs ad cap) (hlen : xs.length ≤ 1099511627776) (m : Nat) (Bn : Nat) (w1 : World) (hb1 : Below W0.heap.size W0 w1) (hB0 : W0.heap.size ≤ Bn) (hbox : w1.heap[Bn]? = some (.cells #[.slice ad xs.length cap] 34 (0, 0))) :
    SeqStopsK Fence.wide m Tryz.prog 201 #[.pointer (some ⟨Bn, 0, none⟩)] (fun x : Int × Event => #[.int .i64 x.1, .agg #[.int .i64 x.2.Kind, .int .i64 x.2.Month]]) (KpB W0.heap.size Bn) (fun ys => ys.map (·.2) = xs.reverse) (fun pre => ∃ k, pre.map (·.2) = xs.reverse.take k) xs.length w1 := by
  intro l J Jx W hW hJ hJx hY h0
  have hbl := (Array.getElem?_eq_some_iff.1 hbox).1
  have hbW : W.heap[Bn]? = some (.cells #[.slice ad xs.length cap] 34 (0, 0)) := (hW.block Bn hbl).trans hbox
  have hBW : Below W0.heap.size W0 W := hb1.trans (hW.mono hb1.size)
  have hview : ∀ X, Below W0.heap.size W0 X → SlView X xs ad cap := fun X h => hv.stable (fun g hg => h.block g hg)
  refine callsIn_of_wp Tryz.func201 rfl trivial ?_ rfl
  rw [Tryz.ntmps201]
  refine (show JCI Fence.wide m Tryz.prog (fun _ => False) W [] 19 [] _ (argSV 0 [.v (.func (.yield l) #[] #[]), .q (some ⟨Bn, 0, none⟩) 0]) [] [] _ from ?_) [] _ W (live_args (args := [.func (.yield l) #[] #[], .pointer (some ⟨Bn, 0, none⟩)]) [.v (.func (.yield l) #[] #[]), .q (some ⟨Bn, 0, none⟩) 0] (by simp [SV.den]) rfl rfl) (sat_start W)
  refine JCI_seq ?_
  refine JCI_region ?_
  refine JOI_loadq wl_wide rfl rfl (by kernel_rfl) (t := 34) (d := some ⟨Bn, 0, none⟩) 0 0 (by kernel_rfl) (cs := [.slice ad xs.length cap]) (v := .slice ad xs.length cap) (fun γ w hs => ⟨by simp, (CellsAt.ofBox hbW).kept hs.kept⟩) (by kernel_rfl) (sl' := (4, .v (.slice ad xs.length cap)) :: [(0, .v (.func (.yield l) #[] #[])), (1, .q (some ⟨Bn, 0, none⟩) 0)]) (by kernel_rfl) ?_
  refine JOI_stepsK wl_wide 3 [3, 0, 1] (by kernel_rfl) (sl' := (3, .v (.int .i64 (w64 ((xs.length : Int) - 1)))) :: [(0, .v (.func (.yield l) #[] #[])), (1, .q (some ⟨Bn, 0, none⟩) 0)]) (bx' := []) (by kernel_rfl) ?_
  refine JOI_end (by kernel_rfl) ?_
  refine JEI_then ?_
  refine JCI_block ?_
  intro δ a w hl hs
  obtain rfl : δ = [] := List.length_eq_zero_iff.1 (by simpa using hs.len)
  refine wpIn_loop (fun a w => ∃ (pre : List (Int × Event)) (k : Nat), k ≤ xs.length ∧ pre.map (·.2) = xs.reverse.take (xs.length - k) ∧ LiveD [] 19 [] ((3, .v (.int .i64 ((k : Int) - 1))) :: [(0, .v (.func (.yield l) #[] #[])), (1, .q (some ⟨Bn, 0, none⟩) 0)]) a ∧ J pre w ∧ Below W0.heap.size W0 w ∧ w.heap[Bn]? = some (.cells #[.slice ad xs.length cap] 34 (0, 0)))
    (fun a w => mu3 a)
    ⟨[], xs.length, Nat.le_refl _, by simp, by rw [w64_id (by omega)] at hl; exact hl, abides_kept hJ h0 hs.kept, hBW.trans (hs.kept.below hBW.size), (hs.kept.block Bn (Array.getElem?_eq_some_iff.1 hbW).1 (fun x => x)).trans hbW⟩ ?_
  rintro a w ⟨pre, k, hk, hpre, hl, hJ1, hB1, hbx⟩
  have hmu : mu3 a = k := by
    rw [mu3_of hl rfl]
    omega
  rw [hmu]
  have hprel : pre.length = xs.length - k := by
    have := congrArg List.length hpre
    simpa using this
  refine (show JCI Fence.wide m Tryz.prog (fun _ => False) w [] 19 [] _ ((3, .v (.int .i64 ((k : Int) - 1))) :: [(0, .v (.func (.yield l) #[] #[])), (1, .q (some ⟨Bn, 0, none⟩) 0)]) [] [] _ from ?_) [] a w hl (sat_start w)
  refine JCI_seq ?_
  refine JCI_seq ?_
  refine JCI_region ?_
  refine JOI_stepsK wl_wide 2 [8, 3, 0, 1] (by kernel_rfl) (sl' := (8, .v (.bool (decide ((k : Int) - 1 ≥ 0)))) :: (3, .v (.int .i64 ((k : Int) - 1))) :: [(0, .v (.func (.yield l) #[] #[])), (1, .q (some ⟨Bn, 0, none⟩) 0)]) (bx' := []) (by kernel_rfl) ?_
  refine JOI_end (by kernel_rfl) ?_
  refine JEI_then ?_
  refine JCI_cond (decide ((k : Int) - 1 ≥ 0)) (by kernel_rfl) (fun hb => ?_) (fun hb => ?_)
  · have hk1 : 1 ≤ k := by have := of_decide_eq_true hb; omega
    obtain ⟨x, hx⟩ : ∃ x, xs[k - 1]? = some x := ⟨_, List.getElem?_eq_getElem (by omega)⟩
    have hidx : idx xs ((k : Int) - 1) = some x := by
      unfold idx
      rw [if_pos (by omega), show ((k : Int) - 1).toNat = k - 1 by omega]
      exact hx
    refine JCI_skip ?_
    refine JEI_then ?_
    refine JCI_seq ?_
    refine JCI_block ?_
    refine JCI_seq ?_
    refine JCI_region ?_
    refine JOI_stepsK wl_wide 2 [12, 11, 3, 0, 1] (by kernel_rfl) (sl' := (12, .v (.int .i64 ((k : Int) - 1))) :: (11, .v (.func (.yield l) #[] #[])) :: (3, .v (.int .i64 ((k : Int) - 1))) :: [(0, .v (.func (.yield l) #[] #[])), (1, .q (some ⟨Bn, 0, none⟩) 0)]) (bx' := []) (by kernel_rfl) ?_
    refine JOI_loadq wl_wide rfl rfl (by kernel_rfl) (t := 34) (d := some ⟨Bn, 0, none⟩) 0 0 (by kernel_rfl) (cs := [.slice ad xs.length cap]) (v := .slice ad xs.length cap) (fun γ w hs => ⟨by simp, (CellsAt.ofBox hbx).kept hs.kept⟩) (by kernel_rfl) (sl' := (13, .v (.slice ad xs.length cap)) :: (12, .v (.int .i64 ((k : Int) - 1))) :: (11, .v (.func (.yield l) #[] #[])) :: (3, .v (.int .i64 ((k : Int) - 1))) :: [(0, .v (.func (.yield l) #[] #[])), (1, .q (some ⟨Bn, 0, none⟩) 0)]) (by kernel_rfl) ?_
    refine JOI_stepsK wl_wide 1 [14, 13, 12, 11, 3, 0, 1] (by kernel_rfl) (sl' := (14, .v (.int .i64 ((k : Int) - 1))) :: (13, .v (.slice ad xs.length cap)) :: (12, .v (.int .i64 ((k : Int) - 1))) :: (11, .v (.func (.yield l) #[] #[])) :: (3, .v (.int .i64 ((k : Int) - 1))) :: [(0, .v (.func (.yield l) #[] #[])), (1, .q (some ⟨Bn, 0, none⟩) 0)]) (bx' := []) (by kernel_rfl) ?_
    refine JOI_index wl_wide rfl rfl (by kernel_rfl) (d := ad) (mm := xs.length) (j := (k : Int) - 1) (s := 2) (by kernel_rfl) (fun γ w' hs => (hview w hB1).kept hs.kept) rfl hidx (sl' := (15, .q ad (Int.toNat ((k : Int) - 1) * 2)) :: (14, .v (.int .i64 ((k : Int) - 1))) :: (13, .v (.slice ad xs.length cap)) :: (12, .v (.int .i64 ((k : Int) - 1))) :: (11, .v (.func (.yield l) #[] #[])) :: (3, .v (.int .i64 ((k : Int) - 1))) :: [(0, .v (.func (.yield l) #[] #[])), (1, .q (some ⟨Bn, 0, none⟩) 0)]) (by kernel_rfl) ?_
    refine JOI_loadq wl_wide rfl rfl (by kernel_rfl) (t := 158) (d := ad) (Int.toNat ((k : Int) - 1) * 2) 0 (by kernel_rfl) (cs := [.int .i64 x.Kind, .int .i64 x.Month]) (v := .agg #[.int .i64 x.Kind, .int .i64 x.Month]) (fun γ w' hs => ((hview w hB1).kept hs.kept).flatq hidx) (by kernel_rfl) (sl' := (16, .v (.agg #[.int .i64 x.Kind, .int .i64 x.Month])) :: (15, .q ad (Int.toNat ((k : Int) - 1) * 2)) :: (14, .v (.int .i64 ((k : Int) - 1))) :: (13, .v (.slice ad xs.length cap)) :: (12, .v (.int .i64 ((k : Int) - 1))) :: (11, .v (.func (.yield l) #[] #[])) :: (3, .v (.int .i64 ((k : Int) - 1))) :: [(0, .v (.func (.yield l) #[] #[])), (1, .q (some ⟨Bn, 0, none⟩) 0)]) (by kernel_rfl) ?_
    refine JOI_yield wl_wide rfl rfl (by kernel_rfl) rfl rfl (y := l) (by kernel_rfl) (args := [.int .i64 ((k : Int) - 1), .agg #[.int .i64 x.Kind, .int .i64 x.Month]]) (by kernel_rfl) rfl (by kernel_rfl) (fun γ w' hs => hY pre ((k : Int) - 1, x) w' (abides_kept hJ hJ1 hs.kept) (by omega)) ?_
    rintro γ w' hs e W3 (⟨rfl, hJ3, hk3⟩ | ⟨rfl, hJx3⟩)
    · refine ⟨true, rfl, fun a' hla => ?_⟩
      have hg0 : γ = [] := List.length_eq_zero_iff.1 (by simpa using hs.len)
      subst hg0
      have hBw' : Below W0.heap.size W0 w' := hB1.trans (hs.kept.below hB1.size)
      have hbx' : w'.heap[Bn]? = some (.cells #[.slice ad xs.length cap] 34 (0, 0)) := (hs.kept.block Bn (Array.getElem?_eq_some_iff.1 hbx).1 (fun x => x)).trans hbx
      have hB3 : Below W0.heap.size W0 W3 := hBw'.trans hk3.1
      have hbx3 : W3.heap[Bn]? = some (.cells #[.slice ad xs.length cap] 34 (0, 0)) := hk3.2.trans hbx'
      refine (show JOI Fence.wide m Tryz.prog (fun _ => False) W3 [] 19 [] _ _ _ [] [] _ from ?_) [] a' W3 hla (sat_start W3)
      refine JOI_stepsK wl_wide 1 [18, 3, 0, 1] (by kernel_rfl) (sl' := (18, .v (.bool false)) :: (3, .v (.int .i64 ((k : Int) - 1))) :: [(0, .v (.func (.yield l) #[] #[])), (1, .q (some ⟨Bn, 0, none⟩) 0)]) (bx' := []) (by kernel_rfl) ?_
      refine JOI_end (by kernel_rfl) ?_
      refine JEI_then ?_
      refine JCI_cond false (by kernel_rfl) (fun h => by cases h) (fun _ => ?_)
      refine JCI_skip ?_
      refine JEI_block_normal ?_
      refine JEI_then ?_
      refine JCI_region ?_
      refine JOI_stepsK wl_wide 3 [3, 0, 1] (by kernel_rfl) (sl' := (3, .v (.int .i64 (w64 ((k : Int) - 1 - 1)))) :: [(0, .v (.func (.yield l) #[] #[])), (1, .q (some ⟨Bn, 0, none⟩) 0)]) (bx' := []) (by kernel_rfl) ?_
      refine JOI_end (by kernel_rfl) ?_
      intro δ2 a2 w2 hl2 hs2
      obtain rfl : δ2 = [] := List.length_eq_zero_iff.1 (by simpa using hs2.len)
      have e1 : w64 ((k : Int) - 1 - 1) = ((k - 1 : Nat) : Int) - 1 := by rw [w64_id (by omega)]; omega
      rw [e1] at hl2
      refine ⟨⟨pre ++ [((k : Int) - 1, x)], k - 1, by omega, ?_, hl2, abides_kept hJ hJ3 hs2.kept, hB3.trans (hs2.kept.below hB3.size), (hs2.kept.block Bn (Array.getElem?_eq_some_iff.1 hbx3).1 (fun x => x)).trans hbx3⟩, ?_⟩
      · rw [List.map_append, hpre, show xs.length - (k - 1) = (xs.length - k) + 1 by omega, List.take_add_one, List.getElem?_reverse (by omega), show xs.length - 1 - (xs.length - k) = k - 1 by omega, hx]
        rfl
      · rw [mu3_of hl2 rfl]
        omega
    · refine ⟨false, rfl, fun a' hla => ?_⟩
      have hg0 : γ = [] := List.length_eq_zero_iff.1 (by simpa using hs.len)
      subst hg0
      refine (show JOI Fence.wide m Tryz.prog (fun _ => False) W3 [] 19 [] _ _ _ [] [] _ from ?_) [] a' W3 hla (sat_start W3)
      refine JOI_stepsK wl_wide 1 [18] (by kernel_rfl) (sl' := [(18, .v (.bool true))]) (bx' := []) (by kernel_rfl) ?_
      refine JOI_end (by kernel_rfl) ?_
      refine JEI_then ?_
      refine JCI_cond true (by kernel_rfl) (fun _ => ?_) (fun h => by cases h)
      refine JCI_ret ?_
      intro δ2 a2 w2 hl2 hs2
      have h9 := results_ok (P := Tryz.prog) (fn := Tryz.f201) (a := { a2 with defers := [] }) (vs := []) hl2.1 hs2 (by kernel_rfl)
      refine ⟨hl2.2, _, h9, ⟨_, rfl⟩, .inr ⟨pre ++ [((k : Int) - 1, x)], ⟨xs.length - (k - 1), ?_⟩, abides_kept hJx hJx3 hs2.kept⟩⟩
      rw [List.map_append, hpre, show xs.length - (k - 1) = (xs.length - k) + 1 by omega, List.take_add_one, List.getElem?_reverse (by omega), show xs.length - 1 - (xs.length - k) = k - 1 by omega, hx]
      rfl
  · have hk0 : k = 0 := by have := of_decide_eq_false hb; omega
    subst hk0
    refine JCI_exit ?_
    refine JEI_then_exit ?_
    refine JEI_then_exit ?_
    refine JEI_block_hit ?_
    intro δ2 a2 w2 hl2 hs2
    have h9 := results_ok (P := Tryz.prog) (fn := Tryz.f201) (a := { a2 with defers := [] }) (vs := []) hl2.1 hs2 (by kernel_rfl)
    refine ⟨hl2.2, _, h9, ⟨_, rfl⟩, .inl ⟨pre, ?_, abides_kept hJ hJ1 hs2.kept⟩⟩
    show pre.map (·.2) = xs.reverse
    rw [hpre, Nat.sub_zero, List.take_of_length_le (by simp)]

theorem c_impl_MonthOfKind {W : World} {x0 : List Event} {a0 : Option Addr} {c0 : Nat} {x1 : Int} {r : Int} (h : impl_MonthOfKind x0 x1 = some r) (hv : SlView W x0 a0 c0) :
    Gives0 Tryz.prog 130 #[.slice a0 x0.length c0, .int .i64 x1] W (.int .i64 r) := by
  unfold impl_MonthOfKind at h
  obtain ⟨t, ht, h⟩ := bS h
  refine enterMk (args := [.slice a0 x0.length c0, .int .i64 x1]) 9 Tryz.func130 rfl Tryz.ntmps130 (by kernel_rfl) ?_
  refine JCI_seq ?_
  refine JCI_region ?_
  refine JOI_stepsK wl_wide 2 [0, 3, 4] (by kernel_rfl) (sl' := [(0, .v (.slice a0 x0.length c0)), (3, .p 0 0), (4, .p 1 0)]) (bx' := [(3, [.int .i64 x1]), (3, [.int .i64 0])]) (by kernel_rfl) ?_
  refine JOI_end (by kernel_rfl) ?_
  refine JEI_then ?_
  refine JCI_seq ?_
  refine JCI_seq ?_
  refine JCI_region ?_
  refine JOI_stepsK wl_wide 1 [7, 0, 3, 4] (by kernel_rfl) (sl' := [(7, .v (.slice a0 x0.length c0)), (0, .v (.slice a0 x0.length c0)), (3, .p 0 0), (4, .p 1 0)]) (bx' := [(3, [.int .i64 x1]), (3, [.int .i64 0])]) (by kernel_rfl) ?_
  refine JOI_call0 wl_wide rfl rfl (by kernel_rfl) (f := 148) (args := #[.slice a0 x0.length c0]) (by kernel_rfl) (x := .bool t) (fun γ w hs => (by have vv := c_impl_EventsOk (W := w) ht (hv.kept hs.kept); exact vv)) (sl' := [(8, .v (.bool t)), (7, .v (.slice a0 x0.length c0)), (0, .v (.slice a0 x0.length c0)), (3, .p 0 0), (4, .p 1 0)]) (by kernel_rfl) ?_
  refine JOI_stepsK wl_wide 1 [9, 0, 3, 4] (by kernel_rfl) (sl' := [(9, .v (.bool (!t))), (0, .v (.slice a0 x0.length c0)), (3, .p 0 0), (4, .p 1 0)]) (bx' := [(3, [.int .i64 x1]), (3, [.int .i64 0])]) (by kernel_rfl) ?_
  refine JOI_end (by kernel_rfl) ?_
  refine JEI_then ?_
  refine JCI_cond (!t) (by kernel_rfl) (fun bt => ?_) (fun bt => ?_)
  · rw [bt] at h
    have hr : (-1 : Int) = r := Option.some.inj h
    subst hr
    refine JCI_seq ?_
    refine JCI_region ?_
    refine JOI_stepsK wl_wide 1 [4] (by kernel_rfl) (sl' := [(4, .p 1 0)]) (bx' := [(3, [.int .i64 x1]), (3, [.int .i64 (-1)])]) (by kernel_rfl) ?_
    refine JOI_end (by kernel_rfl) ?_
    refine JEI_then ?_
    refine JCI_ret ?_
    refine JEI_then_ret ?_
    exact JEI_ret0 (vs := [.int .i64 (-1)]) (by kernel_rfl) (fun γ w hs => ⟨rfl, hs.kept.toBelow⟩)
  rw [bt] at h
  refine JCI_skip ?_
  refine JEI_then ?_
  cases hlb : decide ((x0.length : Int) ≤ 1099511627776) with
  | false => rw [hlb] at h; cases h
  | true =>
  rw [hlb] at h
  have hlen : x0.length ≤ 1099511627776 := by have := of_decide_eq_true hlb; omega
  replace h := Option.some.inj h
  refine JCI_seq ?_
  refine JCI_seq ?_
  refine JCI_region ?_
  refine JOI_stepsK wl_wide 1 [10, 3, 4] (by kernel_rfl) (sl' := [(10, .v (.slice a0 x0.length c0)), (3, .p 0 0), (4, .p 1 0)]) (bx' := [(3, [.int .i64 x1]), (3, [.int .i64 0])]) (by kernel_rfl) ?_
  refine JOI_callbox wl_wide rfl rfl (by kernel_rfl) (f := 183) (gf := 201) (args := #[.slice a0 x0.length c0]) (by kernel_rfl) (e := 34) (cs := [.slice a0 x0.length c0]) (fun w => back_Event_new a0 x0.length c0 w) (sl' := [(11, .f 201 [(2, 0)]), (10, .v (.slice a0 x0.length c0)), (3, .p 0 0), (4, .p 1 0)]) (by kernel_rfl) ?_
  refine JOI_end (by kernel_rfl) ?_
  refine JEI_then ?_
  refine JCI_block ?_
  refine JCI_back (xs := x0) (kb := 2) (gf := 201) (slB := [(6, .p 3 0), (3, .p 0 0), (4, .p 1 0)]) (ad := a0) (cap := c0) (tS := 34) (tv := 158) (bx := [(3, [.int .i64 x1]), (3, [.int .i64 0]), (34, [.slice a0 x0.length c0])])
    (fun x => .agg #[.int .i64 x.Kind, .int .i64 x.Month]) (hitEvent x1) (fun v => [(3, [.int .i64 x1]), (3, [.int .i64 v]), (34, [.slice a0 x0.length c0])]) (by decide) (by kernel_rfl) rfl (Go.Proofs.enters_of Tryz.func201 (by kernel_rfl) rfl) (by kernel_rfl) (by kernel_rfl)
    (fun Bn w1 hb1 hB0 hbox => back_Event hv hlen 8 Bn w1 hb1 hB0 hbox) ?hA ?hB ?hdone ?hstop
  case hA =>
    intro l x W2 γ Q hγ hQ
    refine JCI_region ?_
    refine JOI_stepsK (wl_round l) 2 [6, 3, 4] (by kernel_rfl) (sl' := [(6, .p 3 0), (3, .p 0 0), (4, .p 1 0)]) (bx' := [(3, [.int .i64 x1]), (3, [.int .i64 0]), (34, [.slice a0 x0.length c0]), (158, [.int .i64 x.2.Kind, .int .i64 x.2.Month])]) (by kernel_rfl) ?_
    refine JOI_end (by kernel_rfl) ?_
    intro δ a w hl hs
    have hδ : δ.length = 1 := by have := hs.len; simp only [List.length_append, hγ] at this; simp at this; omega
    obtain ⟨gx, rfl⟩ := List.length_eq_one_iff.1 hδ
    exact hQ gx a w hl hs
  case hB =>
    intro l x W2 γ hγ
    refine JCI_block ?_
    refine JCI_seq ?_
    refine JCI_region ?_
    refine JOI_stepsK (wl_round l) 4 [17, 6, 3, 4] (by kernel_rfl) (sl' := [(17, .v (.bool (x.Kind == x1))), (6, .p 3 0), (3, .p 0 0), (4, .p 1 0)]) (bx' := [(3, [.int .i64 x1]), (3, [.int .i64 0]), (34, [.slice a0 x0.length c0]), (158, [.int .i64 x.Kind, .int .i64 x.Month])]) (by kernel_rfl) ?_
    refine JOI_end (by kernel_rfl) ?_
    refine JEI_then ?_
    refine JCI_cond (x.Kind == x1) rfl (fun b1 => ?_) (fun b1 => ?_)
    · refine JCI_seq ?_
      refine JCI_region ?_
      refine JOI_stepsK (wl_round l) 3 [4] (by kernel_rfl) (sl' := [(4, .p 1 0)]) (bx' := [(3, [.int .i64 x1]), (3, [.int .i64 x.Month]), (34, [.slice a0 x0.length c0]), (158, [.int .i64 x.Kind, .int .i64 x.Month])]) (by kernel_rfl) ?_
      refine JOI_end (by kernel_rfl) ?_
      refine JEI_then ?_
      refine JCI_ret ?_
      refine JEI_block_ret ?_
      exact fun δ a w hl hs => ⟨x.Month, by simp [hitEvent, b1], δ, _, rfl, hs⟩
    · refine JCI_skip ?_
      refine JEI_block_normal ?_
      exact fun δ a w hl hs => ⟨by simp [hitEvent, b1], δ, _, rfl, hs⟩
  case hdone =>
    intro hn D W2 γ hD hK hs0
    rw [hn] at h
    have hr : (-1 : Int) = r := h
    subst hr
    refine JEI_block_normal ?_
    refine JEI_then ?_
    refine JCI_seq ?_
    refine JCI_region ?_
    refine JOI_stepsK wl_wide 1 [4] (by kernel_rfl) (sl' := [(4, .p 1 0)]) (bx' := [(3, [.int .i64 x1]), (3, [.int .i64 (-1)]), (34, [.slice a0 x0.length c0])]) (by kernel_rfl) ?_
    refine JOI_end (by kernel_rfl) ?_
    refine JEI_then ?_
    refine JCI_ret ?_
    exact JEI_retM (vs := [.int .i64 (-1)]) (by kernel_rfl) hD hK hs0 (fun w' hb => ⟨rfl, hb⟩)
  case hstop =>
    intro v hn D W2 γ hD hK hs0
    rw [hn] at h
    have hr : v = r := h
    subst hr
    refine JEI_block_ret ?_
    refine JEI_then_ret ?_
    exact JEI_retM (vs := [.int .i64 v]) (by kernel_rfl) hD hK hs0 (fun w' hb => ⟨rfl, hb⟩)


theorem c_impl_MonthsIn {W : World} {x0 : Int} {x1 : Int} {x2 : Int} {x3 : Int} {r : Int} (h : impl_MonthsIn x0 x1 x2 x3 = some r)  :
    Gives0 Tryz.prog 185 #[.int .i64 x0, .int .i64 x1, .int .i64 x2, .int .i64 x3] W (.int .i64 r) := by
 unfold impl_MonthsIn at h
 refine en Tryz.func185 Tryz.ntmps185 ?_
 refine qs (qr (oN 1 [] [0, 1, 2, 3] ?_))
 refine oe (nt (qs (qs (qr (oN 4 [(12, vi x3), (11, vi x2), (10, vi x1), (9, vi x0)] [0, 1, 2, 3] ?_)))))
 refine ob [] [] 3 4 [.int .i64 x0, .int .i64 x1, .int .i64 x2, .int .i64 x3] ([x0, x1, x2, x3] : List Int) (own_flat (by kernel_rfl)) (fun y21 => ?_)
 obtain ⟨t23, h24, h25⟩ := bS h
 refine k0 (fun γ w hs => c_impl_allWithin h24 (hs.view 0 rfl)) ?_
 refine oN 1 [(15, vb (!t23))] [0, 1, 2, 3] ?_
 refine oe (nt (cC h25 (fun h28 => ?_) (fun h29 => ?_)))
 · refine qs (qr (oN 1 [(8, vi 0)] [] ?_))
   refine oe (nt (qe (nr ?_)))
   obtain rfl := sI h28
   exact re [.int .i64 0]
 refine qk (nt (qs (qr (oN 9 [(8, vi (imax 0 (w64 ((imin x1 x3) - (imax x0 x2)))))] [] ?_))))
 refine oe (nt (qe ?_))
 obtain rfl := sI h29
 exact re [.int .i64 (imax 0 (w64 ((imin x1 x3) - (imax x0 x2))))]

theorem c_impl_ServiceIn {W : World} {x0 : List Spell} {a0_0 : Option Addr} {c0_0 : Nat} {x1 : Int} {x2 : Int} {r : Int} (h : impl_ServiceIn x0 x1 x2 = some r) (hv0_0 : SlView W x0 a0_0 c0_0) :
    Gives0 Tryz.prog 132 #[.slice a0_0 x0.length c0_0, .int .i64 x1, .int .i64 x2] W (.int .i64 r) := by
 unfold impl_ServiceIn at h
 refine en Tryz.func132 Tryz.ntmps132 ?_
 refine qs (qr (oN 1 [] [0, 1, 2] ?_))
 refine oe (nt (qs (qs ?_)))
 obtain ⟨p21, hE22, h23⟩ := bS h
 refine JC_cut (τ := Unit) (fun _ => [(0, .v (.slice a0_0 x0.length c0_0)), (1, vi x1), (2, vi x2), (22, vb p21)]) (fun _ => []) (fun _ => []) ?_ (fun _ => ?_)
 · refine qr (oN 1 [(10, .v (.slice a0_0 x0.length c0_0))] [0, 1, 2] ?_)
   obtain ⟨t24, h25, h26⟩ := bS hE22
   refine k0 (fun γ w hs => c_impl_SpellsOk h25 (hv0_0.kept hs.kept)) ?_
   refine oN 2 [(13, vb (!t24))] [0, 1, 2] ?_
   refine oS 13 h26 (fun h29 => ?_) (fun h30 => ?_)
   · refine oN 9 [(22, vb true)] [0, 1, 2] ?_
     refine oe ?_
     obtain rfl := sI h29
     exact mt () [0, 1, 2, 22] [] 0
   refine oN 1 [(14, vi x1)] [13, 0, 1, 2] ?_
   obtain ⟨t31, h32, h33⟩ := bS h30
   refine k0 (fun γ w hs => c_impl_isEnd h32) ?_
   refine oN 3 [(18, vb (!t31))] [0, 1, 2] ?_
   refine oS 18 h33 (fun h36 => ?_) (fun h37 => ?_)
   · refine oN 4 [(22, vb true)] [0, 1, 2] ?_
     refine oe ?_
     obtain rfl := sI h36
     exact mt () [0, 1, 2, 22] [] 0
   refine oN 1 [(19, vi x2)] [18, 0, 1, 2] ?_
   obtain ⟨t38, h39, h40⟩ := bS h37
   refine k0 (fun γ w hs => c_impl_isEnd h39) ?_
   refine oN 2 [(22, vb (!t38))] [0, 1, 2] ?_
   refine oe ?_
   obtain rfl := sI h40
   exact mt () [0, 1, 2, 22] [] 0
 refine nt (cC h23 (fun h43 => ?_) (fun h44 => ?_))
 · refine qs (qr (oN 1 [(6, vi 0)] [] ?_))
   refine oe (nt (qe (nr ?_)))
   obtain rfl := sI h43
   exact re [.int .i64 0]
 refine qk (nt (qs (qr (oN 1 [(7, vi 0)] [0, 1, 2] ?_))))
 refine oe (nt (qs (qs (qr (oN 3 [(25, vi 0), (24, vi (x0.length : Int)), (23, .v (.slice a0_0 x0.length c0_0))] [7, 1, 2] ?_)))))
 refine oe (nt ?_)
 obtain ⟨r48, hL49, h50⟩ := bS h44
 obtain ⟨k51, hk52, h50⟩ := brkS h50
 refine JC_cutP (τ := (Int) × (Unit)) (fun y => k51 y.1 = some r) (fun y56 => [(7, vi y56.1)]) (fun y56 => []) (fun y56 => []) ?_ (fun y56 h57p => ?_)
 · refine qb (lp Unit hL49 (fun s45 y46 => [(25, vi s45.1), (24, vi (x0.length : Int)), (23, .v (.slice a0_0 x0.length c0_0)), (7, vi s45.2), (1, vi x1), (2, vi x2)]) (fun s45 y46 => []) (fun s45 y46 => []) () [25, 24, 23, 7, 1, 2] [] 0 (fun s45 y46 t47 h53 hd54 => ?_))
   refine qs (qr (oN 1 [(26, vb (decide (s45.1 < (x0.length : Int))))] [25, 24, 23, 7, 1, 2] ?_))
   refine oe (nt (qs (cC h53 (fun h59 => ?_) (fun h60 => ?_))))
   · refine qk (nt (qs (qb (qs (qr ?_)))))
     obtain ⟨x61, hx62, h63⟩ := bS h59
     refine oi 4 (fun γ w hs => (hv0_0.kept hs.kept)) hx62 ?_
     refine ol 156 0 (vSpell x61) (fun γ w hs => (hv0_0.kept hs.kept).flatq hx62) ?_
     refine oB 2 [(9, .p 0 0)] [25, 24, 23, 7, 1, 2] [(156, (eSpell x61))] ?_
     refine oe (nt (qs (qr (oN 3 [(31, vb (!x61.Leave))] [9, 25, 24, 23, 7, 1, 2] ?_))))
     refine oe (nt ?_)
     obtain ⟨k71, hk72, h74⟩ := jS h63
     refine JC_cutP (τ := (Int) × (Unit)) (fun y => k71 y.1 = some t47) (fun y70 => [(25, vi s45.1), (24, vi (x0.length : Int)), (23, .v (.slice a0_0 x0.length c0_0)), (7, vi y70.1), (1, vi x1), (2, vi x2)]) (fun y70 => [(156, (eSpell x61))]) (fun y70 => []) ?_ (fun y70 h73p => ?_)
     · refine cC h74 (fun h76 => ?_) (fun h77 => ?_)
       · refine JC_quiet (by kernel_rfl) (by kernel_rfl) ?_
         refine qN 9 [(40, vi x61.To), (38, vi x61.From), (36, vi x2), (35, vi x1), (34, vi x61.Percent), (32, vi s45.2)] [25, 24, 23, 1, 2] ?_
         obtain ⟨t78, h79, h80⟩ := bS h76
         refine q0 (fun γ w hs => c_impl_MonthsIn h79) ?_
         refine qN 3 [(7, vi (w64 (s45.2 + (w64 (x61.Percent * t78)))))] [25, 24, 23, 1, 2] ?_
         exact qz (mp (w64 (s45.2 + (w64 (x61.Percent * t78))), ()) h80 [25, 24, 23, 7, 1, 2] [] 1)
       exact qk (mp (s45.2, ()) h77 [25, 24, 23, 7, 1, 2] [] 1)
     have h73 := (congrFun hk72 _).symm.trans h73p
     refine bn (nt (qr (oN 2 [(25, vi (w64 (s45.1 + 1)))] [24, 23, 7, 1, 2] ?_)))
     exact oe (ct h73 () [25, 24, 23, 7, 1, 2] [] 0)
   refine qx (nx (nx (bh ?_)))
   have h82 := leafB hd54 h60 h50
   exact mp (s45.2, ()) h82 [7] [] 0
 have h57 := (congrFun hk52 _).symm.trans h57p
 refine nt (qs (qr (oN 2 [(6, vi y56.1)] [] ?_)))
 refine oe (nt (qe ?_))
 obtain rfl := sI h57
 exact re [.int .i64 y56.1]

theorem c_impl_whole {W : World} {x0 : Int} {r : Frac} (h : impl_whole x0 = some r)  :
    Gives0 Tryz.prog 133 #[.int .i64 x0] W (vFrac r) := by
 unfold impl_whole at h
 refine en Tryz.func133 Tryz.ntmps133 ?_
 refine qs (qr (oB 1 [(2, .p 0 0)] [0] [(133, (eFrac (Frac.mk 0 0)))] ?_))
 refine oe (nt (qs (qr (oB 3 [] [2] [(133, (eFrac (Frac.mk x0 1)))] ?_))))
 refine oe (nt (qe ?_))
 obtain rfl := sI h
 exact re [vFrac (Frac.mk x0 1)]

theorem c_impl_AgeAt {W : World} {x0 : Int} {x1 : Int} {x2 : Int} {r : Int} (h : impl_AgeAt x0 x1 x2 = some r)  :
    Gives0 Tryz.prog 134 #[.int .i64 x0, .int .i64 x1, .int .i64 x2] W (.int .i64 r) := by
 unfold impl_AgeAt at h
 refine en Tryz.func134 Tryz.ntmps134 ?_
 refine qs (qr (oN 1 [] [0, 1, 2] ?_))
 refine oe (nt (qs (qs ?_)))
 obtain ⟨p21, hE22, h23⟩ := bS h
 refine JC_cut (τ := Unit) (fun _ => [(0, vi x0), (1, vi x1), (2, vi x2), (20, vb p21)]) (fun _ => []) (fun _ => []) ?_ (fun _ => ?_)
 · refine qr (oN 1 [(8, vi x0)] [0, 1, 2] ?_)
   obtain ⟨t24, h25, h26⟩ := bS hE22
   refine k0 (fun γ w hs => c_impl_MonthOk h25) ?_
   refine oN 2 [(11, vb (!t24))] [0, 1, 2] ?_
   refine oS 11 h26 (fun h29 => ?_) (fun h30 => ?_)
   · refine oN 9 [(20, vb true)] [0, 1, 2] ?_
     refine oe ?_
     obtain rfl := sI h29
     exact mt () [0, 1, 2, 20] [] 0
   refine oN 1 [(12, vi x1)] [11, 0, 1, 2] ?_
   obtain ⟨t31, h32, h33⟩ := bS h30
   refine k0 (fun γ w hs => c_impl_MonthOk h32) ?_
   refine oN 3 [(16, vb (!t31))] [0, 1, 2] ?_
   refine oS 16 h33 (fun h36 => ?_) (fun h37 => ?_)
   · refine oN 4 [(20, vb true)] [0, 1, 2] ?_
     refine oe ?_
     obtain rfl := sI h36
     exact mt () [0, 1, 2, 20] [] 0
   refine oN 4 [(20, vb (decide (x1 < x0)))] [0, 1, 2] ?_
   refine oe ?_
   obtain rfl := sI h37
   exact mt () [0, 1, 2, 20] [] 0
 refine nt (cC h23 (fun h39 => ?_) (fun h40 => ?_))
 · refine qs (qr (oN 1 [(6, vi (-1))] [] ?_))
   refine oe (nt (qe (nr ?_)))
   obtain rfl := sI h39
   exact re [.int .i64 (-1)]
 refine qk (nt (qs (qr (oN 4 [(7, vi (w64 (x1 - x0)))] [2] ?_))))
 refine oe (nt (qs (qs (qr (oN 1 [(24, vi x2)] [7] ?_)))))
 refine oe (nt (qb (qs (qr (oN 2 [(25, vb (x2 == 1))] [24, 7] ?_)))))
 refine oe (nt (cC h40 (fun h48 => ?_) (fun h49 => ?_)))
 · refine qs (qr (oN 3 [(6, vi (w64 (Int.tdiv (w64 (x1 - x0)) 12)))] [] ?_))
   refine oe (nt (qe (br (nr ?_))))
   obtain rfl := sI h48
   exact re [.int .i64 (w64 (Int.tdiv (w64 (x1 - x0)) 12))]
 refine qs (qr (oN 2 [(29, vb (x2 == 2))] [24, 7] ?_))
 refine oe (nt (cC h49 (fun h54 => ?_) (fun h55 => ?_)))
 · refine qs (qr (oN 4 [(6, vi (w64 (Int.tdiv (w64 ((w64 (x1 - x0)) + 6)) 12)))] [] ?_))
   refine oe (nt (qe (br (nr ?_))))
   obtain rfl := sI h54
   exact re [.int .i64 (w64 (Int.tdiv (w64 ((w64 (x1 - x0)) + 6)) 12))]
 refine qs (qr (oN 2 [(34, vb (x2 == 3))] [7] ?_))
 refine oe (nt (cC h55 (fun h57 => ?_) (fun h58 => ?_)))
 · refine qs (qr (oN 4 [(6, vi (w64 ((w64 (Int.tdiv (w64 (x1 - x0)) 12)) + 1)))] [] ?_))
   refine oe (nt (qe (br (nr ?_))))
   obtain rfl := sI h57
   exact re [.int .i64 (w64 ((w64 (Int.tdiv (w64 (x1 - x0)) 12)) + 1))]
 refine qk (bn (nt (qs (qr (oN 1 [(6, vi (-1))] [] ?_)))))
 refine oe (nt (qe ?_))
 obtain rfl := sI h58
 exact re [.int .i64 (-1)]

theorem c_impl_VarsFor_1 {W : World} {x0 : Frac} {r : Bool} (h : impl_VarsFor_1 x0 = some r)  :
    Gives0 Tryz.prog 136 #[vFrac x0] W (.bool r) := by
 unfold impl_VarsFor_1 at h
 refine en Tryz.func136 Tryz.ntmps136 ?_
 refine qs (qr (oB 2 [(1, .p 0 0)] [] [(133, (eFrac x0))] ?_))
 refine oe (nt (qs (qr (oN 1 [(3, .v (vFrac x0))] [] ?_))))
 obtain ⟨t21, h22, h23⟩ := bS h
 refine k0 (fun γ w hs => c_impl_FracOk h22) ?_
 refine oN 2 [(2, vb (!t21))] [] ?_
 refine oe (nt (qe ?_))
 obtain rfl := sI h23
 exact re [.bool (!t21)]

theorem c_slices_IndexFunc_Frac__impl_VarsFor_1 {W : World} {x0 : List Frac} {a0_0 : Option Addr} {c0_0 : Nat} {r : Int} (h : slices_IndexFunc_Frac__impl_VarsFor_1 x0 = some r) (hv0_0 : SlView W x0 a0_0 c0_0) :
    Gives0 Tryz.prog 186 #[.slice a0_0 x0.length c0_0, .func (.func 136) #[] #[]] W (.int .i64 r) := by
 unfold slices_IndexFunc_Frac__impl_VarsFor_1 at h
 refine en Tryz.func186 Tryz.ntmps186 ?_
 refine qs (qr (oN 1 [] [0, 1] ?_))
 refine oe (nt (qs (qs (qr (oN 3 [(8, vi 0), (7, vi (x0.length : Int))] [0, 1] ?_)))))
 refine oe (nt ?_)
 obtain ⟨r24, hL25, h26⟩ := bS h
 obtain ⟨k27, hk28, h26⟩ := brkS h26
 refine JC_cutP (τ := (Unit) × (Unit)) (fun y => k27 y.1 = some r) (fun y32 => []) (fun y32 => []) (fun y32 => []) ?_ (fun y32 h33p => ?_)
 · refine qb (lp Unit hL25 (fun s21 y22 => [(8, vi s21), (7, vi (x0.length : Int)), (0, .v (.slice a0_0 x0.length c0_0)), (1, .v (.func (.func 136) #[] #[]))]) (fun s21 y22 => []) (fun s21 y22 => []) () [8, 7, 0, 1] [] 0 (fun s21 y22 t23 h29 hd30 => ?_))
   refine qs (qr (oN 1 [(9, vb (decide (s21 < (x0.length : Int))))] [8, 7, 0, 1] ?_))
   refine oe (nt (qs (cC h29 (fun h35 => ?_) (fun h36 => ?_))))
   · refine qk (nt (qs (qb (qs (qr (oN 2 [(5, vi s21)] [8, 7, 0, 1] ?_))))))
     refine oe (nt (qs (qr (oN 3 [(13, vi s21), (12, .v (.slice a0_0 x0.length c0_0)), (11, .v (.func (.func 136) #[] #[]))] [5, 8, 7, 0, 1] ?_))))
     obtain ⟨x37, hx38, h39⟩ := bS h35
     refine oi 2 (fun γ w hs => (hv0_0.kept hs.kept)) hx38 ?_
     refine ol 133 0 (vFrac x37) (fun γ w hs => (hv0_0.kept hs.kept).flatq hx38) ?_
     obtain ⟨t40, h41, h42⟩ := bS h39
     refine k0 (fun γ w hs => c_impl_VarsFor_1 h41) ?_
     refine oe (nt (cC h42 (fun h45 => ?_) (fun h46 => ?_)))
     · refine qs (qr (oN 2 [(4, vi s21)] [] ?_))
       refine oe (nt (qe (br (nr (nr ?_)))))
       have h47 := leafR hd30 h45 h26
       refine br (nr (nr ?_))
       obtain rfl := sI h47
       exact re [.int .i64 s21]
     refine qk (bn (nt (qr (oN 2 [(8, vi (w64 (s21 + 1)))] [7, 0, 1] ?_))))
     exact oe (ct h46 () [8, 7, 0, 1] [] 0)
   refine qx (nx (nx (bh ?_)))
   have h48 := leafB hd30 h36 h26
   exact mp ((), ()) h48 [] [] 0
 have h33 := (congrFun hk28 _).symm.trans h33p
 refine nt (qs (qr (oN 1 [(4, vi (-1))] [] ?_)))
 refine oe (nt (qe ?_))
 obtain rfl := sI h33
 exact re [.int .i64 (-1)]

theorem c_slices_ContainsFunc_Frac__impl_VarsFor_1 {W : World} {x0 : List Frac} {a0_0 : Option Addr} {c0_0 : Nat} {r : Bool} (h : slices_ContainsFunc_Frac__impl_VarsFor_1 x0 = some r) (hv0_0 : SlView W x0 a0_0 c0_0) :
    Gives0 Tryz.prog 135 #[.slice a0_0 x0.length c0_0, .func (.func 136) #[] #[]] W (.bool r) := by
 unfold slices_ContainsFunc_Frac__impl_VarsFor_1 at h
 refine en Tryz.func135 Tryz.ntmps135 ?_
 refine qs (qr (oN 1 [] [0, 1] ?_))
 refine oe (nt (qs (qr (oN 2 [(6, .v (.func (.func 136) #[] #[])), (5, .v (.slice a0_0 x0.length c0_0))] [] ?_))))
 obtain ⟨t21, h22, h23⟩ := bS h
 refine k0 (fun γ w hs => c_slices_IndexFunc_Frac__impl_VarsFor_1 h22 (hv0_0.kept hs.kept)) ?_
 refine oN 2 [(4, vb (decide (t21 ≥ 0)))] [] ?_
 refine oe (nt (qe ?_))
 obtain rfl := sI h23
 exact re [.bool (decide (t21 ≥ 0))]

theorem c_impl_VarsFor {W : World} {x0 : Case} {b0 : AC × AC × AC × AC × AC} {x1 : Int} {x2 : Int} {r : (List Frac) × Bool} (h : impl_VarsFor x0 x1 x2 = some r) (hv0_0 : SlView W x0.Book.Rules b0.1.1 b0.1.2) (hv0_1 : SlView W x0.Store.Facts b0.2.1.1 b0.2.1.2) (hv0_2 : SlView W x0.Series.Points b0.2.2.1.1 b0.2.2.1.2) (hv0_3 : SlView W x0.Member.Spells b0.2.2.2.1.1 b0.2.2.2.1.2) (hv0_4 : SlView W x0.Member.Events b0.2.2.2.2.1 b0.2.2.2.2.2) :
    Gives Tryz.prog 80 #[vCase x0 b0, .int .i64 x1, .int .i64 x2] W (fun y : AC => .tuple #[.slice y.1 r.1.length y.2, .bool r.2]) (fun y => [SlRes 133 r.1 y.1 y.2]) := by
 unfold impl_VarsFor at h
 refine en Tryz.func80 Tryz.ntmps80 ?_
 refine qs (qr (oB 3 [(3, .p 0 0)] [1, 2] [(38, (eCase x0 b0))] ?_))
 refine oe (nt (qs (qr (oB 4 [(8, .p 1 0)] [3, 1, 2] [(38, (eCase x0 b0)), (36, (eMember x0.Member b0.2.2.2))] ?_))))
 refine oe (nt (qs (qs ?_)))
 obtain ⟨p21, hE22, h23⟩ := bS h
 refine JC_cut (τ := Unit) (fun _ => [(1, vi x1), (2, vi x2), (3, .p 0 0), (8, .p 1 0), (37, vb p21)]) (fun _ => [(38, (eCase x0 b0)), (36, (eMember x0.Member b0.2.2.2))]) (fun _ => []) ?_ (fun _ => ?_)
 · refine qr (oN 1 [(19, .v (vCase x0 b0))] [8, 3, 1, 2] ?_)
   obtain ⟨t24, h25, h26⟩ := bS hE22
   refine k0 (fun γ w hs => c_impl_CaseOk (b0 := b0) h25 (hv0_0.kept hs.kept) (hv0_1.kept hs.kept) (hv0_2.kept hs.kept) (hv0_3.kept hs.kept) (hv0_4.kept hs.kept)) ?_
   refine oN 2 [(22, vb (!t24))] [8, 3, 1, 2] ?_
   refine oS 22 h26 (fun h29 => ?_) (fun h30 => ?_)
   · refine oN 15 [(37, vb true)] [8, 3, 1, 2] ?_
     refine oe ?_
     obtain rfl := sI h29
     exact mt () [1, 2, 3, 8, 37] [] 2
   refine oN 1 [(23, vi x1)] [22, 8, 3, 1, 2] ?_
   obtain ⟨t31, h32, h33⟩ := bS h30
   refine k0 (fun γ w hs => c_impl_MonthOk h32) ?_
   refine oN 3 [(27, vb (!t31))] [8, 3, 1, 2] ?_
   refine oS 27 h33 (fun h36 => ?_) (fun h37 => ?_)
   · refine oN 10 [(37, vb true)] [8, 3, 1, 2] ?_
     refine oe ?_
     obtain rfl := sI h36
     exact mt () [1, 2, 3, 8, 37] [] 2
   refine oN 1 [(28, vi x2)] [27, 8, 3, 1, 2] ?_
   obtain ⟨t38, h39, h40⟩ := bS h37
   refine k0 (fun γ w hs => c_impl_MonthOk h39) ?_
   refine oN 3 [(32, vb (!t38))] [8, 3, 1, 2] ?_
   refine oS 32 h40 (fun h43 => ?_) (fun h44 => ?_)
   · refine oN 5 [(37, vb true)] [8, 3, 1, 2] ?_
     refine oe ?_
     obtain rfl := sI h43
     exact mt () [1, 2, 3, 8, 37] [] 2
   refine oN 5 [(37, vb (decide (x1 < x0.Member.Joined)))] [8, 3, 1, 2] ?_
   refine oe ?_
   obtain rfl := sI h44
   exact mt () [1, 2, 3, 8, 37] [] 2
 refine nt (cC h23 (fun h46 => ?_) (fun h47 => ?_))
 · refine qs (qr (oN 2 [(7, vb false), (6, .v (.slice none 0 0))] [] ?_))
   refine oe (nt (qe (nr (JE_addnil 133 (List.nil (α := Frac)) rfl ?_))))
   refine rt [.slice none 0 0, .bool false] (fun γ w hs => ?_)
   rw [← sI h46]
   exact ⟨(none, 0), rfl, hs.kept.toBelow, (hs.takeR (is := [0]) rfl).fresh⟩
 refine qk (nt (qs (qr (oN 4 [(42, vi x2), (41, vi x1), (40, .v (vStore x0.Store b0.2.1))] [1, 2, 3, 8] ?_))))
 obtain ⟨t48, h49, h50⟩ := bS h47
 refine k0 (fun γ w hs => c_impl_FinalPay h49 (hv0_1.kept hs.kept)) ?_
 refine oN 5 [(9, vi t48.1)] [1, 2, 3, 8] ?_
 refine oe (nt (qs (qr (oN 6 [(52, vi x2), (51, vi x1), (50, vi x0.Member.Joined), (48, .v (vSeries x0.Series b0.2.2.1))] [9, 1, 8] ?_))))
 obtain ⟨t52, h53, h54⟩ := bS h50
 refine k0 (fun γ w hs => c_impl_IndexRatio h53 (hv0_2.kept hs.kept)) ?_
 refine oB 6 [(12, vb t52.2), (11, .p 2 0)] [9, 1, 8] [(38, (eCase x0 b0)), (36, (eMember x0.Member b0.2.2.2)), (133, (eFrac t52.1))] ?_
 refine oe (nt (qs (qs (qr (oN 2 [(57, vb (!t52.2))] [11, 9, 1, 8] ?_)))))
 refine oe (nt ?_)
 obtain ⟨k59, hk60, h133⟩ := jS h54
 refine JC_cutP (τ := (Int × Int) × (Unit)) (fun y => k59 y.1 = some r) (fun y58 => [(11, .p 2 0), (9, vi t48.1), (1, vi x1), (8, .p 1 0)]) (fun y58 => [(38, (eCase x0 b0)), (36, (eMember x0.Member b0.2.2.2)), (133, (eFrac (Frac.mk y58.1.1 y58.1.2)))]) (fun y58 => []) ?_ (fun y58 h61p => ?_)
 · refine cC h133 (fun h135 => ?_) (fun h136 => ?_)
   · refine qr (oB 2 [] [11, 9, 1, 8] [(38, (eCase x0 b0)), (36, (eMember x0.Member b0.2.2.2)), (133, (eFrac (Frac.mk 1 1)))] ?_)
     exact oe (mp ((1, 1), ()) h135 [11, 9, 1, 8] [] 3)
   exact qk (mp ((t52.1.Num, t52.1.Den), ()) h136 [11, 9, 1, 8] [] 3)
 have h61 := (congrFun hk60 _).symm.trans h61p
 refine nt (qs (qr (oN 2 [(60, .v (.slice b0.2.2.2.2.1 x0.Member.Events.length b0.2.2.2.2.2))] [11, 9, 1, 8] ?_)))
 obtain ⟨t62, h63, h64⟩ := bS h61
 refine k0 (fun γ w hs => c_impl_MonthOfKind h63 (hv0_4.kept hs.kept)) ?_
 refine oN 1 [(13, vi t62)] [11, 9, 1, 8] ?_
 refine oe (nt (qs (qs ?_)))
 obtain ⟨p66, hE67, h68⟩ := bS h64
 refine JC_cut (τ := Unit) (fun _ => [(1, vi x1), (8, .p 1 0), (9, vi t48.1), (11, .p 2 0), (13, vi t62), (68, vb p66)]) (fun _ => [(38, (eCase x0 b0)), (36, (eMember x0.Member b0.2.2.2)), (133, (eFrac (Frac.mk y58.1.1 y58.1.2)))]) (fun _ => []) ?_ (fun _ => ?_)
 · refine qr (oN 3 [(64, vb (decide (t62 < 0)))] [13, 11, 9, 1, 8] ?_)
   refine oS 64 hE67 (fun h70 => ?_) (fun h71 => ?_)
   · refine oN 4 [(68, vb true)] [13, 11, 9, 1, 8] ?_
     refine oe ?_
     obtain rfl := sI h70
     exact mt () [1, 8, 9, 11, 13, 68] [] 3
   refine oN 4 [(68, vb (decide (t62 > x1)))] [13, 11, 9, 1, 8] ?_
   refine oe ?_
   obtain rfl := sI h71
   exact mt () [1, 8, 9, 11, 13, 68] [] 3
 refine nt ?_
 obtain ⟨k75, hk76, h129⟩ := jS h68
 refine JC_cutP (τ := (Int) × (Unit)) (fun y => k75 y.1 = some r) (fun y74 => [(1, vi x1), (8, .p 1 0), (9, vi t48.1), (11, .p 2 0), (13, vi y74.1)]) (fun y74 => [(38, (eCase x0 b0)), (36, (eMember x0.Member b0.2.2.2)), (133, (eFrac (Frac.mk y58.1.1 y58.1.2)))]) (fun y74 => []) ?_ (fun y74 h77p => ?_)
 · refine cC h129 (fun h131 => ?_) (fun h132 => ?_)
   · refine qr (oN 2 [(13, vi x1)] [1, 8, 9, 11] ?_)
     exact oe (mp (x1, ()) h131 [1, 8, 9, 11, 13] [] 3)
   exact qk (mp (t62, ()) h132 [1, 8, 9, 11, 13] [] 3)
 have h77 := (congrFun hk76 _).symm.trans h77p
 refine nt (qs (qr (oN 3 [(73, vi x1), (72, .v (.slice b0.2.2.2.1.1 x0.Member.Spells.length b0.2.2.2.1.2))] [1, 8, 9, 11, 13] ?_)))
 obtain ⟨t78, h79, h80⟩ := bS h77
 refine k0 (fun γ w hs => c_impl_ServiceIn h79 (hv0_3.kept hs.kept)) ?_
 obtain ⟨t82, h83, h84⟩ := bS h80
 refine k0 (fun γ w hs => c_impl_reduced h83) ?_
 refine oB 6 [(15, vb t82.2), (14, .p 3 0)] [1, 8, 9, 11, 13] [(38, (eCase x0 b0)), (36, (eMember x0.Member b0.2.2.2)), (133, (eFrac (Frac.mk y58.1.1 y58.1.2))), (133, (eFrac t82.1))] ?_
 refine oe (nt (qs ?_))
 obtain ⟨t86, h87, h88⟩ := bS h84
 obtain ⟨t90, h91, h92⟩ := bS h88
 obtain ⟨t94, h95, h96⟩ := bS h92
 obtain ⟨t98, h99, h100⟩ := bS h96
 obtain ⟨t102, h103, h104⟩ := bS h100
 obtain ⟨t106, h107, h108⟩ := bS h104
 obtain ⟨t110, h111, h112⟩ := bS h108
 refine JC_cut (τ := AC) (fun y115 => [(16, .v (.slice y115.1 ([t82.1, t86, t94, Frac.mk y58.1.1 y58.1.2, t98, t102, t106, t110] : List Frac).length y115.2)), (15, vb t82.2)]) (fun y115 => [(38, (eCase x0 b0)), (36, (eMember x0.Member b0.2.2.2)), (133, (eFrac (Frac.mk y58.1.1 y58.1.2))), (133, (eFrac t82.1))]) (fun y115 => [SlRes 133 ([t82.1, t86, t94, Frac.mk y58.1.1 y58.1.2, t98, t102, t106, t110] : List Frac) y115.1 y115.2]) ?_ (fun y115 => ?_)
 · refine jw [15, 14, 1, 8, 9, 11, 13] [] ?_
   refine JC_heldN (ks := [0, 1, 2, 3]) (Rk := []) 19 (by kernel_rfl) (by kernel_rfl) ?_
   refine htq 0 (.v (vFrac t82.1)) [] ?_
   refine hk [78, 15, 1, 8, 9, 11, 13] ?_
   refine htq 1 (vi t48.1) [] ?_
   refine hk [79, 78, 15, 1, 8, 11, 13] ?_
   refine htq 3 (.p 1 0) [] ?_
   refine hk [81, 79, 78, 15, 1, 11, 13] ?_
   refine htq 4 (vi x0.Member.Birth) [] ?_
   refine hk [82, 79, 78, 15, 1, 11, 13] ?_
   refine htq 5 (vi x1) [] ?_
   refine htq 8 (.v (vFrac (Frac.mk y58.1.1 y58.1.2))) [] ?_
   refine hk [86, 83, 82, 79, 78, 15, 1, 13] ?_
   refine htq 9 (vi x1) [] ?_
   refine htq 10 (vi y74.1) [] ?_
   refine hk [88, 87, 86, 83, 82, 79, 78, 15, 1] ?_
   refine htq 11 (vi (w64 (x1 - y74.1))) [] ?_
   refine hk [89, 86, 83, 82, 79, 78, 15, 1] ?_
   refine htq 13 (vi x1) [] ?_
   refine hk [91, 89, 86, 83, 82, 79, 78, 15] ?_
   refine ha1 2 ?_
   refine hi (fun γ0 δ hm => ?_)
   refine g0 (fun w hs => c_impl_whole h87) ?_
   refine gn hm [80, 91, 89, 86, 83, 82, 78, 15] [] ?_
   refine ha1 6 ?_
   refine hi (fun γ0 δ hm => ?_)
   refine g0 (fun w hs => c_impl_AgeAt h91) ?_
   refine gn hm [84, 80, 91, 89, 86, 78, 15] [] ?_
   refine ha1 7 ?_
   refine hi (fun γ0 δ hm => ?_)
   refine g0 (fun w hs => c_impl_whole h95) ?_
   refine gn hm [85, 80, 91, 89, 86, 78, 15] [] ?_
   refine ha1 12 ?_
   refine hi (fun γ0 δ hm => ?_)
   refine g0 (fun w hs => c_impl_whole h99) ?_
   refine gn hm [90, 85, 80, 91, 86, 78, 15] [] ?_
   refine ha1 14 ?_
   refine hi (fun γ0 δ hm => ?_)
   refine g0 (fun w hs => c_impl_whole h103) ?_
   refine gn hm [92, 90, 85, 80, 86, 78, 15] [] ?_
   refine ha1 15 ?_
   refine hi (fun γ0 δ hm => ?_)
   refine g0 (fun w hs => c_impl_whole h107) ?_
   refine gn hm [93, 92, 90, 85, 80, 86, 78, 15] [] ?_
   refine ha1 16 ?_
   refine hi (fun γ0 δ hm => ?_)
   refine g0 (fun w hs => c_impl_whole h111) ?_
   refine gn hm [94, 93, 92, 90, 85, 80, 86, 78, 15] [] ?_
   refine ha1 17 ?_
   refine hi (fun γ0 δ hm => ?_)
   refine gb [] [] 133 8 [.int .i64 t82.1.Num, .int .i64 t82.1.Den, .int .i64 t86.Num, .int .i64 t86.Den, .int .i64 t94.Num, .int .i64 t94.Den, .int .i64 y58.1.1, .int .i64 y58.1.2, .int .i64 t98.Num, .int .i64 t98.Den, .int .i64 t102.Num, .int .i64 t102.Den, .int .i64 t106.Num, .int .i64 t106.Den, .int .i64 t110.Num, .int .i64 t110.Den] ([t82.1, t86, t94, Frac.mk y58.1.1 y58.1.2, t98, t102, t106, t110] : List Frac) (own_flat (by kernel_rfl)) (fun y114 => ?_)
   refine gn hm [95, 15] [] ?_
   refine htq 18 (.v (.slice y114.1 ([t82.1, t86, t94, Frac.mk y58.1.1 y58.1.2, t98, t102, t106, t110] : List Frac).length y114.2)) [] ?_
   refine hk [16, 15] ?_
   exact hd y114 [16, 15] [0] 4
 refine nt (qs (qs ?_))
 obtain ⟨p116, hE117, h118⟩ := bS h112
 refine JC_cut (τ := Unit) (fun _ => [(16, .v (.slice y115.1 ([t82.1, t86, t94, Frac.mk y58.1.1 y58.1.2, t98, t102, t106, t110] : List Frac).length y115.2)), (101, vb p116)]) (fun _ => [(38, (eCase x0 b0)), (36, (eMember x0.Member b0.2.2.2)), (133, (eFrac (Frac.mk y58.1.1 y58.1.2))), (133, (eFrac t82.1))]) (fun _ => [SlRes 133 ([t82.1, t86, t94, Frac.mk y58.1.1 y58.1.2, t98, t102, t106, t110] : List Frac) y115.1 y115.2]) ?_ (fun _ => ?_)
 · refine qr (oN 3 [(98, vb (!t82.2))] [16] ?_)
   refine oS 98 hE117 (fun h120 => ?_) (fun h121 => ?_)
   · refine oN 3 [(101, vb true)] [16] ?_
     refine oe ?_
     obtain rfl := sI h120
     exact mt () [16, 101] [0] 4
   refine oN 1 [(99, .v (.slice y115.1 ([t82.1, t86, t94, Frac.mk y58.1.1 y58.1.2, t98, t102, t106, t110] : List Frac).length y115.2))] [98, 16] ?_
   obtain ⟨t122, h123, h124⟩ := bS h121
   refine k0 (fun γ w hs => c_slices_ContainsFunc_Frac__impl_VarsFor_1 h123 (hs.view 0 rfl)) ?_
   refine oN 1 [(101, vb t122)] [16] ?_
   refine oe ?_
   obtain rfl := sI h124
   exact mt () [16, 101] [0] 4
 refine nt (cC h118 (fun h127 => ?_) (fun h128 => ?_))
 · refine qs (qr (oN 2 [(7, vb false), (6, .v (.slice none 0 0))] [] ?_))
   refine oe (nt (qe (nr (JE_addnil 133 (List.nil (α := Frac)) rfl ?_))))
   refine rt [.slice none 0 0, .bool false] (fun γ w hs => ?_)
   rw [← sI h127]
   exact ⟨(none, 0), rfl, hs.kept.toBelow, (hs.takeR (is := [0]) rfl).fresh⟩
 refine qk (nt (qs (qr (oN 3 [(7, vb true), (6, .v (.slice y115.1 ([t82.1, t86, t94, Frac.mk y58.1.1 y58.1.2, t98, t102, t106, t110] : List Frac).length y115.2))] [] ?_))))
 refine oe (nt (qe (rt [.slice y115.1 ([t82.1, t86, t94, Frac.mk y58.1.1 y58.1.2, t98, t102, t106, t110] : List Frac).length y115.2, .bool true] (fun γ w hs => ?_))))
 rw [← sI h128]
 exact ⟨y115, rfl, hs.kept.toBelow, (hs.takeR (is := [0]) rfl).fresh⟩

theorem c_impl_RuleFor {W : World} {x0 : Book} {a0_0 : Option Addr} {c0_0 : Nat} {x1 : Int} {x2 : Int} {x3 : Int} {r : Int} (h : impl_RuleFor x0 x1 x2 x3 = some r) (hv0_0 : SlView W x0.Rules a0_0 c0_0) :
    Gives0 Tryz.prog 151 #[vBook x0 (a0_0, c0_0), .int .i64 x1, .int .i64 x2, .int .i64 x3] W (.int .i64 r) := by
 unfold impl_RuleFor at h
 refine en Tryz.func151 Tryz.ntmps151 ?_
 refine qs (qr (oB 2 [(4, .p 0 0)] [1, 2, 3] [(26, (eBook x0 (a0_0, c0_0)))] ?_))
 refine oe (nt (qs (qr (oN 1 [(9, vi (-1))] [4, 1, 2, 3] ?_))))
 refine oe (nt (qs (qs (qr (oN 4 [(15, vi 0), (14, vi (x0.Rules.length : Int)), (13, .v (.slice a0_0 x0.Rules.length c0_0))] [9, 4, 1, 2, 3] ?_)))))
 refine oe (nt ?_)
 obtain ⟨r24, hL25, h26⟩ := bS h
 obtain ⟨k27, hk28, h26⟩ := brkS h26
 refine JC_cutP (τ := (Int) × (Unit)) (fun y => k27 y.1 = some r) (fun y32 => [(9, vi y32.1), (4, .p 0 0)]) (fun y32 => [(26, (eBook x0 (a0_0, c0_0)))]) (fun y32 => []) ?_ (fun y32 h33p => ?_)
 · refine qb (lp Unit hL25 (fun s21 y22 => [(15, vi s21.1), (14, vi (x0.Rules.length : Int)), (13, .v (.slice a0_0 x0.Rules.length c0_0)), (9, vi s21.2), (4, .p 0 0), (1, vi x1), (2, vi x2), (3, vi x3)]) (fun s21 y22 => [(26, (eBook x0 (a0_0, c0_0)))]) (fun s21 y22 => []) () [15, 14, 13, 9, 4, 1, 2, 3] [] 1 (fun s21 y22 t23 h29 hd30 => ?_))
   refine qs (qr (oN 1 [(16, vb (decide (s21.1 < (x0.Rules.length : Int))))] [15, 14, 13, 9, 4, 1, 2, 3] ?_))
   refine oe (nt (qs (cC h29 (fun h42 => ?_) (fun h43 => ?_))))
   · refine qk (nt (qs (qb (qs (qr (oN 1 [(17, vi s21.1)] [15, 14, 13, 9, 4, 1, 2, 3] ?_))))))
     obtain ⟨x44, hx45, h46⟩ := bS h42
     refine oi 7 (fun γ w hs => (hv0_0.kept hs.kept)) hx45 ?_
     obtain ⟨_, ⟨a47, c48, rfl, hv49⟩, hc50⟩ := SlView.at hv0_0 (idx_some hx45).2.2
     refine ol 76 0 (vRule x44 (a47, c48)) (fun γ w hs => ⟨(hv0_0.kept hs.kept).ne (idx_some hx45).2.2, hc50.kept hs.kept⟩) ?_
     refine oB 3 [(10, vi s21.1), (11, .p 1 0)] [15, 14, 13, 9, 4, 1, 2, 3] [(26, (eBook x0 (a0_0, c0_0))), (76, (eRule x44 (a47, c48)))] ?_
     refine oe (nt (qs ?_))
     obtain ⟨p51, hE52, h53⟩ := bS h46
     refine JC_cut (τ := Unit) (fun _ => [(1, vi x1), (2, vi x2), (3, vi x3), (4, .p 0 0), (9, vi s21.2), (10, vi s21.1), (13, .v (.slice a0_0 x0.Rules.length c0_0)), (14, vi (x0.Rules.length : Int)), (15, vi s21.1), (56, vb p51)]) (fun _ => [(26, (eBook x0 (a0_0, c0_0))), (76, (eRule x44 (a47, c48)))]) (fun _ => []) ?_ (fun _ => ?_)
     · refine JC_quiet (by kernel_rfl) (by kernel_rfl) ?_
       refine qN 5 [(24, vb (x44.Name == x1))] [10, 11, 15, 14, 13, 9, 4, 1, 2, 3] ?_
       refine qS 24 hE52 (fun h55 => ?_) (fun h56 => ?_)
       · refine qN 6 [(30, vb (decide (x44.From ≤ x2)))] [10, 11, 15, 14, 13, 9, 4, 1, 2, 3] ?_
         refine qS 30 h55 (fun h58 => ?_) (fun h59 => ?_)
         · refine qN 6 [(36, vb (decide (x2 < x44.To)))] [10, 11, 15, 14, 13, 9, 4, 1, 2, 3] ?_
           refine qS 36 h58 (fun h61 => ?_) (fun h62 => ?_)
           · refine qN 6 [(42, vb (decide (x44.Joined > x3)))] [10, 11, 15, 14, 13, 9, 4, 1, 2, 3] ?_
             refine qS 42 h61 (fun h64 => ?_) (fun h65 => ?_)
             · refine qN 3 [(45, vb (decide (s21.2 < 0)))] [42, 10, 11, 15, 14, 13, 9, 4, 1, 2, 3] ?_
               refine qS 45 h64 (fun h67 => ?_) (fun h68 => ?_)
               · refine qN 11 [(56, vb true)] [10, 15, 14, 13, 9, 4, 1, 2, 3] ?_
                 refine qz ?_
                 obtain rfl := sI h67
                 exact mt () [1, 2, 3, 4, 9, 10, 13, 14, 15, 56] [] 2
               refine qN 5 [(50, vi s21.2), (49, .v (.slice a0_0 x0.Rules.length c0_0)), (47, vi x44.Rank)] [45, 42, 10, 15, 14, 13, 9, 4, 1, 2, 3] ?_
               obtain ⟨x69, hx70, h71⟩ := bS h68
               refine qi 7 (fun γ w hs => (hv0_0.kept hs.kept)) hx70 ?_
               refine qN 1 [(52, .q a0_0 (Int.toNat s21.2 * 7 + 4))] [47, 45, 42, 10, 15, 14, 13, 9, 4, 1, 2, 3] ?_
               obtain ⟨_, ⟨a72, c73, rfl, hv74⟩, hc75⟩ := SlView.at hv0_0 (idx_some hx70).2.2
               refine ql 3 4 (.int .i64 x69.Rank) (fun γ w hs => ⟨(hv0_0.kept hs.kept).ne (idx_some hx70).2.2, hc75.kept hs.kept⟩) ?_
               refine qN 3 [(56, vb (decide (x44.Rank > x69.Rank)))] [10, 15, 14, 13, 9, 4, 1, 2, 3] ?_
               refine qz ?_
               obtain rfl := sI h71
               exact mt () [1, 2, 3, 4, 9, 10, 13, 14, 15, 56] [] 2
             refine qN 14 [(56, vb false)] [10, 15, 14, 13, 9, 4, 1, 2, 3] ?_
             refine qz ?_
             obtain rfl := sI h65
             exact mt () [1, 2, 3, 4, 9, 10, 13, 14, 15, 56] [] 2
           refine qN 20 [(56, vb false)] [10, 15, 14, 13, 9, 4, 1, 2, 3] ?_
           refine qz ?_
           obtain rfl := sI h62
           exact mt () [1, 2, 3, 4, 9, 10, 13, 14, 15, 56] [] 2
         refine qN 26 [(56, vb false)] [10, 15, 14, 13, 9, 4, 1, 2, 3] ?_
         refine qz ?_
         obtain rfl := sI h59
         exact mt () [1, 2, 3, 4, 9, 10, 13, 14, 15, 56] [] 2
       refine qN 32 [(56, vb false)] [10, 15, 14, 13, 9, 4, 1, 2, 3] ?_
       refine qz ?_
       obtain rfl := sI h56
       exact mt () [1, 2, 3, 4, 9, 10, 13, 14, 15, 56] [] 2
     refine nt ?_
     obtain ⟨k79, hk80, h82⟩ := jS h53
     refine JC_cutP (τ := (Int) × (Unit)) (fun y => k79 y.1 = some t23) (fun y78 => [(1, vi x1), (2, vi x2), (3, vi x3), (4, .p 0 0), (9, vi y78.1), (13, .v (.slice a0_0 x0.Rules.length c0_0)), (14, vi (x0.Rules.length : Int)), (15, vi s21.1)]) (fun y78 => [(26, (eBook x0 (a0_0, c0_0))), (76, (eRule x44 (a47, c48)))]) (fun y78 => []) ?_ (fun y78 h81p => ?_)
     · refine cC h82 (fun h84 => ?_) (fun h85 => ?_)
       · refine qr (oN 2 [(9, vi s21.1)] [1, 2, 3, 4, 13, 14, 15] ?_)
         exact oe (mp (s21.1, ()) h84 [1, 2, 3, 4, 9, 13, 14, 15] [] 2)
       exact qk (mp (s21.2, ()) h85 [1, 2, 3, 4, 9, 13, 14, 15] [] 2)
     have h81 := (congrFun hk80 _).symm.trans h81p
     refine bn (nt (qr (oN 2 [(15, vi (w64 (s21.1 + 1)))] [1, 2, 3, 4, 9, 13, 14] ?_)))
     exact oe (ct h81 () [15, 14, 13, 9, 4, 1, 2, 3] [] 1)
   refine qx (nx (nx (bh ?_)))
   have h86 := leafB hd30 h43 h26
   exact mp (s21.2, ()) h86 [9, 4] [] 1
 have h33 := (congrFun hk28 _).symm.trans h33p
 refine nt (qs (qs (qr (oN 1 [(59, .v (vBook x0 (a0_0, c0_0)))] [9] ?_))))
 obtain ⟨t34, h35, h36⟩ := bS h33
 refine k0 (fun γ w hs => c_impl_BookOk h35 (hv0_0.kept hs.kept)) ?_
 refine oN 1 [(61, vb (!t34))] [9] ?_
 refine oe (nt (cC h36 (fun h39 => ?_) (fun h40 => ?_)))
 · refine qs (qr (oN 1 [(8, vi (-1))] [] ?_))
   refine oe (nt (qe (nr ?_)))
   obtain rfl := sI h39
   exact re [.int .i64 (-1)]
 refine qk (nt (qs (qr (oN 2 [(8, vi y32.1)] [] ?_))))
 refine oe (nt (qe ?_))
 obtain rfl := sI h40
 exact re [.int .i64 y32.1]

theorem c_impl_EvalAll_1 {W : World} {x0 : Frac} {r : Bool} (h : impl_EvalAll_1 x0 = some r)  :
    Gives0 Tryz.prog 203 #[vFrac x0] W (.bool r) := by
 unfold impl_EvalAll_1 at h
 refine en Tryz.func203 Tryz.ntmps203 ?_
 refine qs (qr (oB 2 [(1, .p 0 0)] [] [(133, (eFrac x0))] ?_))
 refine oe (nt (qs (qr (oN 1 [(3, .v (vFrac x0))] [] ?_))))
 obtain ⟨t21, h22, h23⟩ := bS h
 refine k0 (fun γ w hs => c_impl_FracOk h22) ?_
 refine oN 2 [(2, vb (!t21))] [] ?_
 refine oe (nt (qe ?_))
 obtain rfl := sI h23
 exact re [.bool (!t21)]

theorem c_slices_IndexFunc_Frac__impl_EvalAll_1 {W : World} {x0 : List Frac} {a0_0 : Option Addr} {c0_0 : Nat} {r : Int} (h : slices_IndexFunc_Frac__impl_EvalAll_1 x0 = some r) (hv0_0 : SlView W x0 a0_0 c0_0) :
    Gives0 Tryz.prog 186 #[.slice a0_0 x0.length c0_0, .func (.func 203) #[] #[]] W (.int .i64 r) := by
 unfold slices_IndexFunc_Frac__impl_EvalAll_1 at h
 refine en Tryz.func186 Tryz.ntmps186 ?_
 refine qs (qr (oN 1 [] [0, 1] ?_))
 refine oe (nt (qs (qs (qr (oN 3 [(8, vi 0), (7, vi (x0.length : Int))] [0, 1] ?_)))))
 refine oe (nt ?_)
 obtain ⟨r24, hL25, h26⟩ := bS h
 obtain ⟨k27, hk28, h26⟩ := brkS h26
 refine JC_cutP (τ := (Unit) × (Unit)) (fun y => k27 y.1 = some r) (fun y32 => []) (fun y32 => []) (fun y32 => []) ?_ (fun y32 h33p => ?_)
 · refine qb (lp Unit hL25 (fun s21 y22 => [(8, vi s21), (7, vi (x0.length : Int)), (0, .v (.slice a0_0 x0.length c0_0)), (1, .v (.func (.func 203) #[] #[]))]) (fun s21 y22 => []) (fun s21 y22 => []) () [8, 7, 0, 1] [] 0 (fun s21 y22 t23 h29 hd30 => ?_))
   refine qs (qr (oN 1 [(9, vb (decide (s21 < (x0.length : Int))))] [8, 7, 0, 1] ?_))
   refine oe (nt (qs (cC h29 (fun h35 => ?_) (fun h36 => ?_))))
   · refine qk (nt (qs (qb (qs (qr (oN 2 [(5, vi s21)] [8, 7, 0, 1] ?_))))))
     refine oe (nt (qs (qr (oN 3 [(13, vi s21), (12, .v (.slice a0_0 x0.length c0_0)), (11, .v (.func (.func 203) #[] #[]))] [5, 8, 7, 0, 1] ?_))))
     obtain ⟨x37, hx38, h39⟩ := bS h35
     refine oi 2 (fun γ w hs => (hv0_0.kept hs.kept)) hx38 ?_
     refine ol 133 0 (vFrac x37) (fun γ w hs => (hv0_0.kept hs.kept).flatq hx38) ?_
     obtain ⟨t40, h41, h42⟩ := bS h39
     refine k0 (fun γ w hs => c_impl_EvalAll_1 h41) ?_
     refine oe (nt (cC h42 (fun h45 => ?_) (fun h46 => ?_)))
     · refine qs (qr (oN 2 [(4, vi s21)] [] ?_))
       refine oe (nt (qe (br (nr (nr ?_)))))
       have h47 := leafR hd30 h45 h26
       refine br (nr (nr ?_))
       obtain rfl := sI h47
       exact re [.int .i64 s21]
     refine qk (bn (nt (qr (oN 2 [(8, vi (w64 (s21 + 1)))] [7, 0, 1] ?_))))
     exact oe (ct h46 () [8, 7, 0, 1] [] 0)
   refine qx (nx (nx (bh ?_)))
   have h48 := leafB hd30 h36 h26
   exact mp ((), ()) h48 [] [] 0
 have h33 := (congrFun hk28 _).symm.trans h33p
 refine nt (qs (qr (oN 1 [(4, vi (-1))] [] ?_)))
 refine oe (nt (qe ?_))
 obtain rfl := sI h33
 exact re [.int .i64 (-1)]

theorem c_slices_ContainsFunc_Frac__impl_EvalAll_1 {W : World} {x0 : List Frac} {a0_0 : Option Addr} {c0_0 : Nat} {r : Bool} (h : slices_ContainsFunc_Frac__impl_EvalAll_1 x0 = some r) (hv0_0 : SlView W x0 a0_0 c0_0) :
    Gives0 Tryz.prog 135 #[.slice a0_0 x0.length c0_0, .func (.func 203) #[] #[]] W (.bool r) := by
 unfold slices_ContainsFunc_Frac__impl_EvalAll_1 at h
 refine en Tryz.func135 Tryz.ntmps135 ?_
 refine qs (qr (oN 1 [] [0, 1] ?_))
 refine oe (nt (qs (qr (oN 2 [(6, .v (.func (.func 203) #[] #[])), (5, .v (.slice a0_0 x0.length c0_0))] [] ?_))))
 obtain ⟨t21, h22, h23⟩ := bS h
 refine k0 (fun γ w hs => c_slices_IndexFunc_Frac__impl_EvalAll_1 h22 (hv0_0.kept hs.kept)) ?_
 refine oN 2 [(4, vb (decide (t21 ≥ 0)))] [] ?_
 refine oe (nt (qe ?_))
 obtain rfl := sI h23
 exact re [.bool (decide (t21 ≥ 0))]

theorem c_cmp_isNaN_int {W : World} {x0 : Int} {r : Bool} (h : cmp_isNaN_int x0 = some r)  :
    Gives0 Tryz.prog 226 #[.int .i64 x0] W (.bool r) := by
 unfold cmp_isNaN_int at h
 refine en Tryz.func226 Tryz.ntmps226 ?_
 refine qs (qr (oN 1 [] [0] ?_))
 refine oe (nt (qs (qr (oN 4 [(2, vb (x0 != x0))] [] ?_))))
 refine oe (nt (qe ?_))
 obtain rfl := sI h
 exact re [.bool (x0 != x0)]

theorem c_cmp_Compare_int {W : World} {x0 : Int} {x1 : Int} {r : Int} (h : cmp_Compare_int x0 x1 = some r)  :
    Gives0 Tryz.prog 222 #[.int .i64 x0, .int .i64 x1] W (.int .i64 r) := by
 unfold cmp_Compare_int at h
 refine en Tryz.func222 Tryz.ntmps222 ?_
 refine qs (qr (oN 1 [] [0, 1] ?_))
 refine oe (nt (qs (qr (oN 1 [(7, vi x0)] [0, 1] ?_))))
 obtain ⟨t21, h22, h23⟩ := bS h
 refine k0 (fun γ w hs => c_cmp_isNaN_int h22) ?_
 refine oN 1 [(5, vb t21)] [0, 1] ?_
 refine oe (nt (qs (qr (oN 1 [(9, vi x1)] [5, 0, 1] ?_))))
 obtain ⟨t25, h26, h27⟩ := bS h23
 refine k0 (fun γ w hs => c_cmp_isNaN_int h26) ?_
 refine oN 1 [(6, vb t25)] [5, 0, 1] ?_
 refine oe (nt (qs (qs (qr (oN 1 [(11, vb t21)] [6, 0, 1] ?_)))))
 refine oe (nt (cC h27 (fun h33 => ?_) (fun h34 => ?_)))
 · refine qs (qs (qr (oN 1 [(12, vb t25)] [] ?_)))
   refine oe (nt (cC h33 (fun h36 => ?_) (fun h37 => ?_)))
   · refine qs (qr (oN 1 [(4, vi 0)] [] ?_))
     refine oe (nt (qe (nr (nr ?_))))
     obtain rfl := sI h36
     exact re [.int .i64 0]
   refine qk (nt (qs (qr (oN 1 [(4, vi (-1))] [] ?_))))
   refine oe (nt (qe (nr ?_)))
   obtain rfl := sI h37
   exact re [.int .i64 (-1)]
 refine qk (nt (qs (qs (qr (oN 1 [(13, vb t25)] [0, 1] ?_)))))
 refine oe (nt (cC h34 (fun h39 => ?_) (fun h40 => ?_)))
 · refine qs (qr (oN 1 [(4, vi 1)] [] ?_))
   refine oe (nt (qe (nr ?_)))
   obtain rfl := sI h39
   exact re [.int .i64 1]
 refine qk (nt (qs (qs (qr (oN 3 [(16, vb (decide (x0 < x1)))] [0, 1] ?_)))))
 refine oe (nt (cC h40 (fun h42 => ?_) (fun h43 => ?_)))
 · refine qs (qr (oN 1 [(4, vi (-1))] [] ?_))
   refine oe (nt (qe (nr ?_)))
   obtain rfl := sI h42
   exact re [.int .i64 (-1)]
 refine qk (nt (qs (qs (qr (oN 3 [(19, vb (decide (x0 > x1)))] [] ?_)))))
 refine oe (nt (cC h43 (fun h45 => ?_) (fun h46 => ?_)))
 · refine qs (qr (oN 1 [(4, vi 1)] [] ?_))
   refine oe (nt (qe (nr ?_)))
   obtain rfl := sI h45
   exact re [.int .i64 1]
 refine qk (nt (qs (qr (oN 1 [(4, vi 0)] [] ?_))))
 refine oe (nt (qe ?_))
 obtain rfl := sI h46
 exact re [.int .i64 0]

theorem c_impl_FracCmp {W : World} {x0 : Frac} {x1 : Frac} {r : Int} (h : impl_FracCmp x0 x1 = some r)  :
    Gives0 Tryz.prog 210 #[vFrac x0, vFrac x1] W (.int .i64 r) := by
 unfold impl_FracCmp at h
 refine en Tryz.func210 Tryz.ntmps210 ?_
 refine qs (qr (oB 3 [(3, .p 1 0), (2, .p 0 0)] [] [(133, (eFrac x0)), (133, (eFrac x1))] ?_))
 refine oe (nt (qs (qs ?_)))
 obtain ⟨p21, hE22, h23⟩ := bS h
 refine JC_cut (τ := Unit) (fun _ => [(2, .p 0 0), (3, .p 1 0), (12, vb p21)]) (fun _ => [(133, (eFrac x0)), (133, (eFrac x1))]) (fun _ => []) ?_ (fun _ => ?_)
 · refine qr (oN 1 [(5, .v (vFrac x0))] [3, 2] ?_)
   obtain ⟨t24, h25, h26⟩ := bS hE22
   refine k0 (fun γ w hs => c_impl_FracOk h25) ?_
   refine oN 2 [(8, vb (!t24))] [3, 2] ?_
   refine oS 8 h26 (fun h29 => ?_) (fun h30 => ?_)
   · refine oN 4 [(12, vb true)] [3, 2] ?_
     refine oe ?_
     obtain rfl := sI h29
     exact mt () [2, 3, 12] [] 2
   refine oN 1 [(9, .v (vFrac x1))] [8, 3, 2] ?_
   obtain ⟨t31, h32, h33⟩ := bS h30
   refine k0 (fun γ w hs => c_impl_FracOk h32) ?_
   refine oN 2 [(12, vb (!t31))] [3, 2] ?_
   refine oe ?_
   obtain rfl := sI h33
   exact mt () [2, 3, 12] [] 2
 refine nt (cC h23 (fun h36 => ?_) (fun h37 => ?_))
 · refine qs (qr (oN 1 [(4, vi 2)] [] ?_))
   refine oe (nt (qe (nr ?_)))
   obtain rfl := sI h36
   exact re [.int .i64 2]
 refine qk (nt (qs (qr (oN 10 [(22, vi (w64 (x1.Num * x0.Den))), (17, vi (w64 (x0.Num * x1.Den)))] [] ?_))))
 obtain ⟨t38, h39, h40⟩ := bS h37
 refine k0 (fun γ w hs => c_cmp_Compare_int h39) ?_
 refine oN 1 [(4, vi t38)] [] ?_
 refine oe (nt (qe ?_))
 obtain rfl := sI h40
 exact re [.int .i64 t38]

theorem c_impl_FracAdd {W : World} {x0 : Frac} {x1 : Frac} {r : Frac × Bool} (h : impl_FracAdd x0 x1 = some r)  :
    Gives0 Tryz.prog 211 #[vFrac x0, vFrac x1] W (.tuple #[vFrac r.1, .bool r.2]) := by
 unfold impl_FracAdd at h
 refine en Tryz.func211 Tryz.ntmps211 ?_
 refine qs (qr (oB 4 [(4, .p 2 0), (3, .p 1 0), (2, .p 0 0)] [] [(133, (eFrac x0)), (133, (eFrac x1)), (133, (eFrac (Frac.mk 0 0)))] ?_))
 refine oe (nt (qs (qs ?_)))
 obtain ⟨p21, hE22, h23⟩ := bS h
 refine JC_cut (τ := Unit) (fun _ => [(2, .p 0 0), (3, .p 1 0), (4, .p 2 0), (13, vb p21)]) (fun _ => [(133, (eFrac x0)), (133, (eFrac x1)), (133, (eFrac (Frac.mk 0 0)))]) (fun _ => []) ?_ (fun _ => ?_)
 · refine qr (oN 1 [(6, .v (vFrac x0))] [4, 3, 2] ?_)
   obtain ⟨t24, h25, h26⟩ := bS hE22
   refine k0 (fun γ w hs => c_impl_FracOk h25) ?_
   refine oN 2 [(9, vb (!t24))] [4, 3, 2] ?_
   refine oS 9 h26 (fun h29 => ?_) (fun h30 => ?_)
   · refine oN 4 [(13, vb true)] [4, 3, 2] ?_
     refine oe ?_
     obtain rfl := sI h29
     exact mt () [2, 3, 4, 13] [] 3
   refine oN 1 [(10, .v (vFrac x1))] [9, 4, 3, 2] ?_
   obtain ⟨t31, h32, h33⟩ := bS h30
   refine k0 (fun γ w hs => c_impl_FracOk h32) ?_
   refine oN 2 [(13, vb (!t31))] [4, 3, 2] ?_
   refine oe ?_
   obtain rfl := sI h33
   exact mt () [2, 3, 4, 13] [] 3
 refine nt (cC h23 (fun h36 => ?_) (fun h37 => ?_))
 · refine qs (qr (oN 3 [(5, vb false)] [4] ?_))
   refine oe (nt (qe (nr ?_)))
   obtain rfl := sI h36
   exact re [vFrac (Frac.mk 0 0), .bool false]
 refine qk (nt (qs (qr (oN 16 [(30, vi (w64 (x0.Den * x1.Den))), (25, vi (w64 ((w64 (x0.Num * x1.Den)) + (w64 (x1.Num * x0.Den)))))] [4] ?_))))
 obtain ⟨t38, h39, h40⟩ := bS h37
 refine k0 (fun γ w hs => c_impl_reduced h39) ?_
 refine oB 4 [(5, vb t38.2)] [4] [(133, (eFrac x0)), (133, (eFrac x1)), (133, (eFrac t38.1))] ?_
 refine oe (nt (qe ?_))
 obtain rfl := sI h40
 exact re [vFrac t38.1, .bool t38.2]

theorem c_impl_FracSub {W : World} {x0 : Frac} {x1 : Frac} {r : Frac × Bool} (h : impl_FracSub x0 x1 = some r)  :
    Gives0 Tryz.prog 212 #[vFrac x0, vFrac x1] W (.tuple #[vFrac r.1, .bool r.2]) := by
 unfold impl_FracSub at h
 refine en Tryz.func212 Tryz.ntmps212 ?_
 refine qs (qr (oB 4 [(4, .p 2 0), (3, .p 1 0), (2, .p 0 0)] [] [(133, (eFrac x0)), (133, (eFrac x1)), (133, (eFrac (Frac.mk 0 0)))] ?_))
 refine oe (nt (qs (qs ?_)))
 obtain ⟨p21, hE22, h23⟩ := bS h
 refine JC_cut (τ := Unit) (fun _ => [(2, .p 0 0), (3, .p 1 0), (4, .p 2 0), (13, vb p21)]) (fun _ => [(133, (eFrac x0)), (133, (eFrac x1)), (133, (eFrac (Frac.mk 0 0)))]) (fun _ => []) ?_ (fun _ => ?_)
 · refine qr (oN 1 [(6, .v (vFrac x0))] [4, 3, 2] ?_)
   obtain ⟨t24, h25, h26⟩ := bS hE22
   refine k0 (fun γ w hs => c_impl_FracOk h25) ?_
   refine oN 2 [(9, vb (!t24))] [4, 3, 2] ?_
   refine oS 9 h26 (fun h29 => ?_) (fun h30 => ?_)
   · refine oN 4 [(13, vb true)] [4, 3, 2] ?_
     refine oe ?_
     obtain rfl := sI h29
     exact mt () [2, 3, 4, 13] [] 3
   refine oN 1 [(10, .v (vFrac x1))] [9, 4, 3, 2] ?_
   obtain ⟨t31, h32, h33⟩ := bS h30
   refine k0 (fun γ w hs => c_impl_FracOk h32) ?_
   refine oN 2 [(13, vb (!t31))] [4, 3, 2] ?_
   refine oe ?_
   obtain rfl := sI h33
   exact mt () [2, 3, 4, 13] [] 3
 refine nt (cC h23 (fun h36 => ?_) (fun h37 => ?_))
 · refine qs (qr (oN 3 [(5, vb false)] [4] ?_))
   refine oe (nt (qe (nr ?_)))
   obtain rfl := sI h36
   exact re [vFrac (Frac.mk 0 0), .bool false]
 refine qk (nt (qs (qr (oN 16 [(30, vi (w64 (x0.Den * x1.Den))), (25, vi (w64 ((w64 (x0.Num * x1.Den)) - (w64 (x1.Num * x0.Den)))))] [4] ?_))))
 obtain ⟨t38, h39, h40⟩ := bS h37
 refine k0 (fun γ w hs => c_impl_reduced h39) ?_
 refine oB 4 [(5, vb t38.2)] [4] [(133, (eFrac x0)), (133, (eFrac x1)), (133, (eFrac t38.1))] ?_
 refine oe (nt (qe ?_))
 obtain rfl := sI h40
 exact re [vFrac t38.1, .bool t38.2]

theorem c_impl_areFactors {W : World} {x0 : Frac} {x1 : Frac} {r : Bool} (h : impl_areFactors x0 x1 = some r)  :
    Gives0 Tryz.prog 223 #[vFrac x0, vFrac x1] W (.bool r) := by
 unfold impl_areFactors at h
 refine en Tryz.func223 Tryz.ntmps223 ?_
 refine qs (qr (oB 3 [(3, .p 1 0), (2, .p 0 0)] [] [(133, (eFrac x0)), (133, (eFrac x1))] ?_))
 refine oe (nt (qs ?_))
 obtain ⟨p21, hE22, h23⟩ := bS h
 refine JC_cut (τ := Unit) (fun _ => [(4, vb p21)]) (fun _ => [(133, (eFrac x0)), (133, (eFrac x1))]) (fun _ => []) ?_ (fun _ => ?_)
 · refine qr (oN 1 [(5, .v (vFrac x0))] [3, 2] ?_)
   obtain ⟨t24, h25, h26⟩ := bS hE22
   refine k0 (fun γ w hs => c_impl_FracOk h25) ?_
   refine oN 1 [(7, vb t24)] [3, 2] ?_
   refine oS 7 h26 (fun h29 => ?_) (fun h30 => ?_)
   · refine oN 1 [(8, .v (vFrac x1))] [7, 3, 2] ?_
     obtain ⟨t31, h32, h33⟩ := bS h29
     refine k0 (fun γ w hs => c_impl_FracOk h32) ?_
     refine oN 2 [(11, vb t31)] [3, 2] ?_
     refine oS 11 h33 (fun h36 => ?_) (fun h37 => ?_)
     · refine oN 2 [(13, vi x0.Num)] [11, 3] ?_
       obtain ⟨t38, h39, h40⟩ := bS h36
       refine k0 (fun γ w hs => c_impl_within h39) ?_
       refine oN 2 [(16, vb t38)] [3] ?_
       refine oS 16 h40 (fun h43 => ?_) (fun h44 => ?_)
       · refine oN 2 [(18, vi x1.Num)] [16] ?_
         obtain ⟨t45, h46, h47⟩ := bS h43
         refine k0 (fun γ w hs => c_impl_within h46) ?_
         refine oN 2 [(4, vb t45)] [] ?_
         refine oe ?_
         obtain rfl := sI h47
         exact mt () [4] [] 2
       refine oN 5 [(4, vb false)] [] ?_
       refine oe ?_
       obtain rfl := sI h44
       exact mt () [4] [] 2
     refine oN 10 [(4, vb false)] [] ?_
     refine oe ?_
     obtain rfl := sI h37
     exact mt () [4] [] 2
   refine oN 14 [(4, vb false)] [] ?_
   refine oe ?_
   obtain rfl := sI h30
   exact mt () [4] [] 2
 refine nt (qe ?_)
 obtain rfl := sI h23
 exact re [.bool p21]

theorem c_impl_FracMul {W : World} {x0 : Frac} {x1 : Frac} {r : Frac × Bool} (h : impl_FracMul x0 x1 = some r)  :
    Gives0 Tryz.prog 213 #[vFrac x0, vFrac x1] W (.tuple #[vFrac r.1, .bool r.2]) := by
 unfold impl_FracMul at h
 refine en Tryz.func213 Tryz.ntmps213 ?_
 refine qs (qr (oB 4 [(4, .p 2 0), (3, .p 1 0), (2, .p 0 0)] [] [(133, (eFrac x0)), (133, (eFrac x1)), (133, (eFrac (Frac.mk 0 0)))] ?_))
 refine oe (nt (qs (qs (qr (oN 2 [(7, .v (vFrac x1)), (6, .v (vFrac x0))] [4, 3, 2] ?_)))))
 obtain ⟨t21, h22, h23⟩ := bS h
 refine k0 (fun γ w hs => c_impl_areFactors h22) ?_
 refine oN 1 [(9, vb (!t21))] [4, 3, 2] ?_
 refine oe (nt (cC h23 (fun h26 => ?_) (fun h27 => ?_)))
 · refine qs (qr (oN 3 [(5, vb false)] [4] ?_))
   refine oe (nt (qe (nr ?_)))
   obtain rfl := sI h26
   exact re [vFrac (Frac.mk 0 0), .bool false]
 refine qk (nt (qs (qr (oN 10 [(20, vi (w64 (x0.Den * x1.Den))), (15, vi (w64 (x0.Num * x1.Num)))] [4] ?_))))
 obtain ⟨t28, h29, h30⟩ := bS h27
 refine k0 (fun γ w hs => c_impl_reduced h29) ?_
 refine oB 4 [(5, vb t28.2)] [4] [(133, (eFrac x0)), (133, (eFrac x1)), (133, (eFrac t28.1))] ?_
 refine oe (nt (qe ?_))
 obtain rfl := sI h30
 exact re [vFrac t28.1, .bool t28.2]

theorem c_impl_FracDiv {W : World} {x0 : Frac} {x1 : Frac} {r : Frac × Bool} (h : impl_FracDiv x0 x1 = some r)  :
    Gives0 Tryz.prog 214 #[vFrac x0, vFrac x1] W (.tuple #[vFrac r.1, .bool r.2]) := by
 unfold impl_FracDiv at h
 refine en Tryz.func214 Tryz.ntmps214 ?_
 refine qs (qr (oB 4 [(4, .p 2 0), (3, .p 1 0), (2, .p 0 0)] [] [(133, (eFrac x0)), (133, (eFrac x1)), (133, (eFrac (Frac.mk 0 0)))] ?_))
 refine oe (nt (qs (qs ?_)))
 obtain ⟨p21, hE22, h23⟩ := bS h
 refine JC_cut (τ := Unit) (fun _ => [(2, .p 0 0), (3, .p 1 0), (4, .p 2 0), (14, vb p21)]) (fun _ => [(133, (eFrac x0)), (133, (eFrac x1)), (133, (eFrac (Frac.mk 0 0)))]) (fun _ => []) ?_ (fun _ => ?_)
 · refine qr (oN 2 [(7, .v (vFrac x1)), (6, .v (vFrac x0))] [4, 3, 2] ?_)
   obtain ⟨t24, h25, h26⟩ := bS hE22
   refine k0 (fun γ w hs => c_impl_areFactors h25) ?_
   refine oN 2 [(10, vb (!t24))] [4, 3, 2] ?_
   refine oS 10 h26 (fun h29 => ?_) (fun h30 => ?_)
   · refine oN 4 [(14, vb true)] [4, 3, 2] ?_
     refine oe ?_
     obtain rfl := sI h29
     exact mt () [2, 3, 4, 14] [] 3
   refine oN 4 [(14, vb (x1.Num == 0))] [4, 3, 2] ?_
   refine oe ?_
   obtain rfl := sI h30
   exact mt () [2, 3, 4, 14] [] 3
 refine nt (cC h23 (fun h32 => ?_) (fun h33 => ?_))
 · refine qs (qr (oN 3 [(5, vb false)] [4] ?_))
   refine oe (nt (qe (nr ?_)))
   obtain rfl := sI h32
   exact re [vFrac (Frac.mk 0 0), .bool false]
 refine qk (nt (qs (qr (oN 10 [(25, vi (w64 (x0.Den * x1.Num))), (20, vi (w64 (x0.Num * x1.Den)))] [4] ?_))))
 obtain ⟨t34, h35, h36⟩ := bS h33
 refine k0 (fun γ w hs => c_impl_reduced h35) ?_
 refine oB 4 [(5, vb t34.2)] [4] [(133, (eFrac x0)), (133, (eFrac x1)), (133, (eFrac t34.1))] ?_
 refine oe (nt (qe ?_))
 obtain rfl := sI h36
 exact re [vFrac t34.1, .bool t34.2]

theorem c_impl_evalNode {W : World} {x0 : Node} {x1 : List Frac} {a1_0 : Option Addr} {c1_0 : Nat} {x2 : List Frac} {a2_0 : Option Addr} {c2_0 : Nat} {r : Frac × Bool} (h : impl_evalNode x0 x1 x2 = some r) (hv1_0 : SlView W x1 a1_0 c1_0) (hv2_0 : SlView W x2 a2_0 c2_0) :
    Gives0 Tryz.prog 204 #[vNode x0, .slice a1_0 x1.length c1_0, .slice a2_0 x2.length c2_0] W (.tuple #[vFrac r.1, .bool r.2]) := by
 unfold impl_evalNode at h
 refine en Tryz.func204 Tryz.ntmps204 ?_
 refine qs (qr (oB 3 [(6, .p 1 0), (3, .p 0 0)] [1, 2] [(154, (eNode x0)), (133, (eFrac (Frac.mk 0 0)))] ?_))
 refine oe (nt (qs (qs (qr (oN 2 [(12, vi x0.Kind)] [6, 3, 1, 2] ?_)))))
 refine oe (nt (qb (qs (qr (oN 2 [(13, vb (x0.Kind == 1))] [12, 6, 3, 1, 2] ?_)))))
 refine oe (nt (cC h (fun h28 => ?_) (fun h29 => ?_)))
 · refine qs (qr (oB 4 [(7, vb true)] [6] [(154, (eNode x0)), (133, (eFrac x0.Value))] ?_))
   refine oe (nt (qe (br (nr ?_))))
   obtain rfl := sI h28
   exact re [vFrac x0.Value, .bool true]
 refine qs (qr (oN 2 [(17, vb (x0.Kind == 2))] [6, 3, 1, 2] ?_))
 refine oe (nt (cC h29 (fun h34 => ?_) (fun h35 => ?_)))
 · refine qs (qr (oN 3 [(21, vi x0.A), (19, .v (.slice a2_0 x2.length c2_0))] [6] ?_))
   obtain ⟨x36, hx37, h38⟩ := bS h34
   refine oi 2 (fun γ w hs => (hv2_0.kept hs.kept)) hx37 ?_
   refine ol 133 0 (vFrac x36) (fun γ w hs => (hv2_0.kept hs.kept).flatq hx37) ?_
   refine oB 2 [(7, vb true)] [6] [(154, (eNode x0)), (133, (eFrac x36))] ?_
   refine oe (nt (qe (br (nr ?_))))
   obtain rfl := sI h38
   exact re [vFrac x36, .bool true]
 refine qk (bn (nt (qs ?_)))
 obtain ⟨x39, hx40, h41⟩ := bS h35
 obtain ⟨x42, hx43, h44⟩ := bS h41
 refine JC_cut (τ := Unit) (fun _ => [(9, .p 3 0), (8, .p 2 0), (6, .p 1 0), (3, .p 0 0), (1, .v (.slice a1_0 x1.length c1_0))]) (fun _ => [(154, (eNode x0)), (133, (eFrac (Frac.mk 0 0))), (133, (eFrac x39)), (133, (eFrac x42))]) (fun _ => []) ?_ (fun _ => ?_)
 · refine jw [6, 3, 1] [] ?_
   refine JC_heldN (ks := [0, 1]) (Rk := []) 14 (by kernel_rfl) (by kernel_rfl) ?_
   refine htq 0 (.v (.slice a1_0 x1.length c1_0)) [] ?_
   refine htq 1 (.p 0 1) [] ?_
   refine htq 2 (vi x0.A) [] ?_
   refine hk [26, 24, 6, 3, 1] ?_
   refine ht 3 (.q a1_0 (Int.toNat x0.A * 2)) [] (index_held (d := a1_0) (m := x1.length) (j := x0.A) (s := 2) (by kernel_rfl) (fun γ0 w hs => (hv1_0.kept hs.kept)) rfl hx40) ?_
   refine hk [27, 6, 3, 1] ?_
   refine ht 4 (.v (vFrac x39)) [] (loadq_held (t := 133) (d := a1_0) (Int.toNat x0.A * 2) 0 (by kernel_rfl) (cs := (eFrac x39)) (v := vFrac x39) (fun γ0 w hs => (hv1_0.kept hs.kept).flatq hx40) (by kernel_rfl)) ?_
   refine hk [28, 6, 3, 1] ?_
   refine htq 5 (.v (.slice a1_0 x1.length c1_0)) [] ?_
   refine htq 6 (.p 0 2) [] ?_
   refine htq 7 (vi x0.B) [] ?_
   refine hk [31, 29, 28, 6, 3, 1] ?_
   refine ht 8 (.q a1_0 (Int.toNat x0.B * 2)) [] (index_held (d := a1_0) (m := x1.length) (j := x0.B) (s := 2) (by kernel_rfl) (fun γ0 w hs => (hv1_0.kept hs.kept)) rfl hx43) ?_
   refine hk [32, 28, 6, 3, 1] ?_
   refine ht 9 (.v (vFrac x42)) [] (loadq_held (t := 133) (d := a1_0) (Int.toNat x0.B * 2) 0 (by kernel_rfl) (cs := (eFrac x42)) (v := vFrac x42) (fun γ0 w hs => (hv1_0.kept hs.kept).flatq hx43) (by kernel_rfl)) ?_
   refine hk [33, 28, 6, 3, 1] ?_
   refine ha2 10 11 ?_ ?_
   · refine hi (fun γ0 δ hm => ?_)
     refine gs [(8, .p 2 0), (33, .v (vFrac x42)), (28, .v (vFrac x39)), (6, .p 1 0), (3, .p 0 0), (1, .v (.slice a1_0 x1.length c1_0))] [(154, (eNode x0)), (133, (eFrac (Frac.mk 0 0))), (133, (eFrac (Frac.mk 0 0)))] (fun δ2 => ?_)
     refine gd hm [8, 33, 28, 6, 3, 1] [] ?_
     refine ha1 11 ?_
     refine hi (fun γ0 δ hm => ?_)
     refine gs [(9, .p 3 0), (8, .p 2 0), (33, .v (vFrac x42)), (28, .v (vFrac x39)), (6, .p 1 0), (3, .p 0 0), (1, .v (.slice a1_0 x1.length c1_0))] [(154, (eNode x0)), (133, (eFrac (Frac.mk 0 0))), (133, (eFrac (Frac.mk 0 0))), (133, (eFrac (Frac.mk 0 0)))] (fun δ2 => ?_)
     refine gd hm [9, 8, 33, 28, 6, 3, 1] [] ?_
     refine ha1 12 ?_
     refine hi (fun γ0 δ hm => ?_)
     refine gs [(9, .p 3 0), (8, .p 2 0), (33, .v (vFrac x42)), (28, .v (vFrac x39)), (6, .p 1 0), (3, .p 0 0), (1, .v (.slice a1_0 x1.length c1_0))] [(154, (eNode x0)), (133, (eFrac (Frac.mk 0 0))), (133, (eFrac x39)), (133, (eFrac (Frac.mk 0 0)))] (fun δ2 => ?_)
     refine gd hm [9, 8, 33, 6, 3, 1] [] ?_
     refine ha1 13 ?_
     refine hi (fun γ0 δ hm => ?_)
     refine gs [(9, .p 3 0), (8, .p 2 0), (33, .v (vFrac x42)), (6, .p 1 0), (3, .p 0 0), (1, .v (.slice a1_0 x1.length c1_0))] [(154, (eNode x0)), (133, (eFrac (Frac.mk 0 0))), (133, (eFrac x39)), (133, (eFrac x42))] (fun δ2 => ?_)
     refine gd hm [9, 8, 6, 3, 1] [] ?_
     exact hd () [9, 8, 6, 3, 1] [] 4
   · refine hi (fun γ0 δ hm => ?_)
     refine gs [(9, .p 2 0), (33, .v (vFrac x42)), (28, .v (vFrac x39)), (6, .p 1 0), (3, .p 0 0), (1, .v (.slice a1_0 x1.length c1_0))] [(154, (eNode x0)), (133, (eFrac (Frac.mk 0 0))), (133, (eFrac (Frac.mk 0 0)))] (fun δ2 => ?_)
     refine gd hm [9, 33, 28, 6, 3, 1] [] ?_
     refine ha1 10 ?_
     refine hi (fun γ0 δ hm => ?_)
     refine gs [(8, .p 3 0), (9, .p 2 0), (33, .v (vFrac x42)), (28, .v (vFrac x39)), (6, .p 1 0), (3, .p 0 0), (1, .v (.slice a1_0 x1.length c1_0))] [(154, (eNode x0)), (133, (eFrac (Frac.mk 0 0))), (133, (eFrac (Frac.mk 0 0))), (133, (eFrac (Frac.mk 0 0)))] (fun δ2 => ?_)
     refine gd hm [8, 9, 33, 28, 6, 3, 1] [] ?_
     refine ha1 12 ?_
     refine hi (fun γ0 δ hm => ?_)
     refine gs [(8, .p 3 0), (9, .p 2 0), (33, .v (vFrac x42)), (28, .v (vFrac x39)), (6, .p 1 0), (3, .p 0 0), (1, .v (.slice a1_0 x1.length c1_0))] [(154, (eNode x0)), (133, (eFrac (Frac.mk 0 0))), (133, (eFrac (Frac.mk 0 0))), (133, (eFrac x39))] (fun δ2 => ?_)
     refine gd hm [8, 9, 33, 6, 3, 1] [] ?_
     refine ha1 13 ?_
     refine hi (fun γ0 δ hm => ?_)
     refine gs [(8, .p 3 0), (9, .p 2 0), (33, .v (vFrac x42)), (6, .p 1 0), (3, .p 0 0), (1, .v (.slice a1_0 x1.length c1_0))] [(154, (eNode x0)), (133, (eFrac (Frac.mk 0 0))), (133, (eFrac x42)), (133, (eFrac x39))] (fun δ2 => ?_)
     refine gd hm [8, 9, 6, 3, 1] [] ?_
     exact JH_doneP (by kernel_rfl) () [9, 8, 6, 3, 1] [] 4 [0, 1, 3, 2] [0, 1, 3, 2] (by kernel_rfl) (by kernel_rfl) (by kernel_rfl) (by kernel_rfl) (by kernel_rfl)
 refine nt (qs (qr (oN 2 [(35, .v (vFrac x42)), (34, .v (vFrac x39))] [9, 8, 6, 3, 1] ?_)))
 obtain ⟨t46, h47, h48⟩ := bS h44
 refine k0 (fun γ w hs => c_impl_FracCmp h47) ?_
 refine oN 2 [(10, vb (decide (t46 ≤ 0)))] [9, 8, 6, 3, 1] ?_
 refine oe (nt (qs (qs (qr (oN 2 [(39, vi x0.Kind)] [10, 9, 8, 6, 3, 1] ?_)))))
 refine oe (nt (qb (qs (qr (oN 2 [(40, vb (x0.Kind == 3))] [39, 10, 9, 8, 6, 3, 1] ?_)))))
 refine oe (nt ?_)
 obtain ⟨k94, hk95, h103⟩ := jS h48
 refine JC_cutP (τ := (Unit) × (Unit)) (fun y => k94 y.1 = some r) (fun y93 => [(9, .p 3 0), (8, .p 2 0), (6, .p 1 0), (3, .p 0 0), (1, .v (.slice a1_0 x1.length c1_0))]) (fun y93 => [(154, (eNode x0)), (133, (eFrac (Frac.mk 0 0))), (133, (eFrac x39)), (133, (eFrac x42))]) (fun y93 => []) ?_ (fun y93 h96p => ?_)
 · refine cC h103 (fun h105 => ?_) (fun h106 => ?_)
   · refine qs (qr (oN 2 [(43, .v (vFrac x42)), (42, .v (vFrac x39))] [6] ?_))
     obtain ⟨t107, h108, h109⟩ := bS h105
     refine k0 (fun γ w hs => c_impl_FracAdd h108) ?_
     refine oB 4 [(7, vb t107.2)] [6] [(154, (eNode x0)), (133, (eFrac t107.1)), (133, (eFrac x39)), (133, (eFrac x42))] ?_
     refine oe (nt (qe (nr (br (nr ?_)))))
     obtain rfl := sI h109
     exact re [vFrac t107.1, .bool t107.2]
   refine qs (qr (oN 2 [(47, vb (x0.Kind == 4))] [39, 10, 9, 8, 6, 3, 1] ?_))
   refine oe (nt (cC h106 (fun h112 => ?_) (fun h113 => ?_)))
   · refine qs (qr (oN 2 [(50, .v (vFrac x42)), (49, .v (vFrac x39))] [6] ?_))
     obtain ⟨t114, h115, h116⟩ := bS h112
     refine k0 (fun γ w hs => c_impl_FracSub h115) ?_
     refine oB 4 [(7, vb t114.2)] [6] [(154, (eNode x0)), (133, (eFrac t114.1)), (133, (eFrac x39)), (133, (eFrac x42))] ?_
     refine oe (nt (qe (nr (br (nr ?_)))))
     obtain rfl := sI h116
     exact re [vFrac t114.1, .bool t114.2]
   refine qs (qr (oN 2 [(54, vb (x0.Kind == 5))] [39, 10, 9, 8, 6, 3, 1] ?_))
   refine oe (nt (cC h113 (fun h119 => ?_) (fun h120 => ?_)))
   · refine qs (qr (oN 2 [(57, .v (vFrac x42)), (56, .v (vFrac x39))] [6] ?_))
     obtain ⟨t121, h122, h123⟩ := bS h119
     refine k0 (fun γ w hs => c_impl_FracMul h122) ?_
     refine oB 4 [(7, vb t121.2)] [6] [(154, (eNode x0)), (133, (eFrac t121.1)), (133, (eFrac x39)), (133, (eFrac x42))] ?_
     refine oe (nt (qe (nr (br (nr ?_)))))
     obtain rfl := sI h123
     exact re [vFrac t121.1, .bool t121.2]
   refine qs (qr (oN 2 [(61, vb (x0.Kind == 6))] [39, 10, 9, 8, 6, 3, 1] ?_))
   refine oe (nt (cC h120 (fun h126 => ?_) (fun h127 => ?_)))
   · refine qs (qr (oN 2 [(64, .v (vFrac x42)), (63, .v (vFrac x39))] [6] ?_))
     obtain ⟨t128, h129, h130⟩ := bS h126
     refine k0 (fun γ w hs => c_impl_FracDiv h129) ?_
     refine oB 4 [(7, vb t128.2)] [6] [(154, (eNode x0)), (133, (eFrac t128.1)), (133, (eFrac x39)), (133, (eFrac x42))] ?_
     refine oe (nt (qe (nr (br (nr ?_)))))
     obtain rfl := sI h130
     exact re [vFrac t128.1, .bool t128.2]
   refine qs (qs (qr (oN 2 [(68, vb (x0.Kind == 7))] [39, 10, 9, 8, 6, 3, 1] ?_)))
   refine oe (nt ?_)
   obtain ⟨k135, hk136, h144⟩ := jS h127
   refine JC_cutP (τ := (Bool) × (Unit)) (fun y => k135 y.1 = some r) (fun y134 => [(68, vb y134.1), (10, vb (decide (t46 ≤ 0))), (9, .p 3 0), (8, .p 2 0), (6, .p 1 0), (3, .p 0 0), (1, .v (.slice a1_0 x1.length c1_0))]) (fun y134 => [(154, (eNode x0)), (133, (eFrac (Frac.mk 0 0))), (133, (eFrac x39)), (133, (eFrac x42))]) (fun y134 => []) ?_ (fun y134 h137p => ?_)
   · refine cC h144 (fun h146 => ?_) (fun h147 => ?_)
     · exact qk (mp (x0.Kind == 7, ()) h146 [68, 10, 9, 8, 6, 3, 1] [] 4)
     refine qr (oN 2 [(68, vb (x0.Kind == 8))] [10, 9, 8, 6, 3, 1] ?_)
     exact oe (mp (x0.Kind == 8, ()) h147 [68, 10, 9, 8, 6, 3, 1] [] 4)
   have h137 := (congrFun hk136 _).symm.trans h137p
   refine nt (cC h137 (fun h139 => ?_) (fun h140 => ?_))
   · refine qs (qs (qr (oN 5 [(75, vb ((decide (t46 ≤ 0)) == (x0.Kind == 7)))] [9, 8, 6] ?_)))
     refine oe (nt (cC h139 (fun h142 => ?_) (fun h143 => ?_)))
     · refine qs (qr (oB 3 [(7, vb true)] [6] [(154, (eNode x0)), (133, (eFrac x39)), (133, (eFrac x39)), (133, (eFrac x42))] ?_))
       refine oe (nt (qe (nr (nr (br (nr ?_))))))
       obtain rfl := sI h142
       exact re [vFrac x39, .bool true]
     refine qk (nt (qs (qr (oB 3 [(7, vb true)] [6] [(154, (eNode x0)), (133, (eFrac x42)), (133, (eFrac x39)), (133, (eFrac x42))] ?_))))
     refine oe (nt (qe (nr (br (nr ?_)))))
     obtain rfl := sI h143
     exact re [vFrac x42, .bool true]
   exact qk (mp ((), ()) h140 [9, 8, 6, 3, 1] [] 4)
 have h96 := (congrFun hk95 _).symm.trans h96p
 refine bn (nt (qs (qs (qr (oN 3 [(80, vb (decide (x39.Num > 0)))] [9, 6, 3, 1] ?_)))))
 refine oe (nt (cC h96 (fun h98 => ?_) (fun h99 => ?_)))
 · refine qs (qr (oB 3 [(7, vb true)] [6] [(154, (eNode x0)), (133, (eFrac x42)), (133, (eFrac x39)), (133, (eFrac x42))] ?_))
   refine oe (nt (qe (nr ?_)))
   obtain rfl := sI h98
   exact re [vFrac x42, .bool true]
 refine qk (nt (qs (qr (oN 3 [(84, vi x0.C), (82, .v (.slice a1_0 x1.length c1_0))] [6] ?_))))
 obtain ⟨x100, hx101, h102⟩ := bS h99
 refine oi 2 (fun γ w hs => (hv1_0.kept hs.kept)) hx101 ?_
 refine ol 133 0 (vFrac x100) (fun γ w hs => (hv1_0.kept hs.kept).flatq hx101) ?_
 refine oB 2 [(7, vb true)] [6] [(154, (eNode x0)), (133, (eFrac x100)), (133, (eFrac x39)), (133, (eFrac x42))] ?_
 refine oe (nt (qe ?_))
 obtain rfl := sI h102
 exact re [vFrac x100, .bool true]

theorem c_impl_EvalAll {W : World} {x0 : List Node} {a0_0 : Option Addr} {c0_0 : Nat} {x1 : List Frac} {a1_0 : Option Addr} {c1_0 : Nat} {r : (List Frac) × Bool} (h : impl_EvalAll x0 x1 = some r) (hv0_0 : SlView W x0 a0_0 c0_0) (hv1_0 : SlView W x1 a1_0 c1_0) :
    Gives Tryz.prog 191 #[.slice a0_0 x0.length c0_0, .slice a1_0 x1.length c1_0] W (fun y : AC => .tuple #[.slice y.1 r.1.length y.2, .bool r.2]) (fun y => [SlRes 133 r.1 y.1 y.2]) := by
 unfold impl_EvalAll at h
 refine en Tryz.func191 Tryz.ntmps191 ?_
 refine qs (qr (oN 2 [] [0, 1] ?_))
 refine oe (nt (qs (qs ?_)))
 obtain ⟨p21, hE22, h23⟩ := bS h
 refine JC_cut (τ := Unit) (fun _ => [(0, .v (.slice a0_0 x0.length c0_0)), (1, .v (.slice a1_0 x1.length c1_0)), (22, vb p21)]) (fun _ => []) (fun _ => []) ?_ (fun _ => ?_)
 · refine qr (oN 1 [(11, .v (.slice a0_0 x0.length c0_0))] [0, 1] ?_)
   obtain ⟨t24, h25, h26⟩ := bS hE22
   refine k0 (fun γ w hs => c_impl_FormulaOk h25 (hv0_0.kept hs.kept)) ?_
   refine oN 2 [(14, vb (!t24))] [0, 1] ?_
   refine oS 14 h26 (fun h29 => ?_) (fun h30 => ?_)
   · refine oN 8 [(22, vb true)] [0, 1] ?_
     refine oe ?_
     obtain rfl := sI h29
     exact mt () [0, 1, 22] [] 0
   refine oN 5 [(19, vb ((x1.length : Int) != 8))] [0, 1] ?_
   refine oS 19 h30 (fun h32 => ?_) (fun h33 => ?_)
   · refine oN 3 [(22, vb true)] [0, 1] ?_
     refine oe ?_
     obtain rfl := sI h32
     exact mt () [0, 1, 22] [] 0
   refine oN 1 [(20, .v (.slice a1_0 x1.length c1_0))] [19, 0, 1] ?_
   obtain ⟨t34, h35, h36⟩ := bS h33
   refine k0 (fun γ w hs => c_slices_ContainsFunc_Frac__impl_EvalAll_1 h35 (hv1_0.kept hs.kept)) ?_
   refine oN 1 [(22, vb t34)] [0, 1] ?_
   refine oe ?_
   obtain rfl := sI h36
   exact mt () [0, 1, 22] [] 0
 refine nt (cC h23 (fun h39 => ?_) (fun h40 => ?_))
 · refine qs (qr (oN 2 [(5, vb false), (4, .v (.slice none 0 0))] [] ?_))
   refine oe (nt (qe (nr (JE_addnil 133 (List.nil (α := Frac)) rfl ?_))))
   refine rt [.slice none 0 0, .bool false] (fun γ w hs => ?_)
   rw [← sI h39]
   exact ⟨(none, 0), rfl, hs.kept.toBelow, (hs.takeR (is := [0]) rfl).fresh⟩
 refine qk (nt (qs (qr (ob [] [] 133 0 [] ([] : List Frac) (own_flat (by kernel_rfl)) (fun y41 => ?_)))))
 refine oN 1 [(6, .v (.slice y41.1 ([] : List Frac).length y41.2))] [0, 1] ?_
 refine oe (nt (qs (qs (qr (oN 3 [(26, vi 0), (25, vi (x0.length : Int)), (24, .v (.slice a0_0 x0.length c0_0))] [6, 1] ?_)))))
 refine oe (nt ?_)
 obtain ⟨r46, hL47, h48⟩ := bS h40
 obtain ⟨k49, hk50, h48⟩ := brkS h48
 refine JC_cutP (τ := ((List Frac)) × (AC)) (fun y => k49 y.1 = some r) (fun y54 => [(6, .v (.slice y54.2.1 y54.1.length y54.2.2))]) (fun y54 => []) (fun y54 => [SlRes 133 y54.1 y54.2.1 y54.2.2]) ?_ (fun y54 h55p => ?_)
 · refine qb (lp AC hL47 (fun s43 y44 => [(26, vi s43.1), (25, vi (x0.length : Int)), (24, .v (.slice a0_0 x0.length c0_0)), (6, .v (.slice y44.1 s43.2.length y44.2)), (1, .v (.slice a1_0 x1.length c1_0))]) (fun s43 y44 => []) (fun s43 y44 => [SlRes 133 s43.2 y44.1 y44.2]) (y41.1, y41.2) [26, 25, 24, 6, 1] [0] 0 (fun s43 y44 t45 h51 hd52 => ?_))
   refine qs (qr (oN 1 [(27, vb (decide (s43.1 < (x0.length : Int))))] [26, 25, 24, 6, 1] ?_))
   refine oe (nt (qs (cC h51 (fun h57 => ?_) (fun h58 => ?_))))
   · refine qk (nt (qs (qb (qs (qr ?_)))))
     obtain ⟨x59, hx60, h61⟩ := bS h57
     refine oi 6 (fun γ w hs => (hv0_0.kept hs.kept)) hx60 ?_
     refine ol 154 0 (vNode x59) (fun γ w hs => (hv0_0.kept hs.kept).flatq hx60) ?_
     refine oB 2 [(8, .p 0 0)] [26, 25, 24, 6, 1] [(154, (eNode x59))] ?_
     refine oe (nt (qs (qr (oN 3 [(33, .v (.slice a1_0 x1.length c1_0)), (32, .v (.slice y44.1 s43.2.length y44.2)), (31, .v (vNode x59))] [26, 25, 24, 6, 1] ?_))))
     obtain ⟨t62, h63, h64⟩ := bS h61
     refine k0 (fun γ w hs => c_impl_evalNode h63 (hs.view 0 rfl) (hv1_0.kept hs.kept)) ?_
     refine oB 6 [(10, vb t62.2), (9, .p 1 0)] [26, 25, 24, 6, 1] [(154, (eNode x59)), (133, (eFrac t62.1))] ?_
     refine oe (nt (qs (qs (qr (oN 2 [(38, vb (!t62.2))] [9, 26, 25, 24, 6, 1] ?_)))))
     refine oe (nt (cC h64 (fun h67 => ?_) (fun h68 => ?_)))
     · refine qs (qr (oN 2 [(5, vb false), (4, .v (.slice none 0 0))] [] ?_))
       refine oe (nt (qe (nr (br (nr (nr ?_))))))
       have h69 := leafR hd52 h67 h48
       refine br (nr (nr (JE_addnil 133 (List.nil (α := Frac)) rfl ?_)))
       refine rt [.slice none 0 0, .bool false] (fun γ w hs => ?_)
       rw [← sI h69]
       exact ⟨(none, 0), rfl, hs.kept.toBelow, (hs.takeR (is := [0]) rfl).fresh⟩
     refine qk (nt (qr (oN 2 [(40, .v (vFrac t62.1)), (39, .v (.slice y44.1 s43.2.length y44.2))] [26, 25, 24, 1] ?_)))
     refine ob [] [SlRes 133 s43.2 y44.1 y44.2] 133 1 [.int .i64 t62.1.Num, .int .i64 t62.1.Den] ([t62.1] : List Frac) (own_flat (by kernel_rfl)) (fun y70 => ?_)
     refine or_ [1, 0] ?_
     obtain ⟨l73, hm74, h75⟩ := bS h68
     refine oa 128 y70.2 Tryz.t133 (vFrac (Frac.mk 0 0)) (fun γ w hs => ⟨y70.2, (hs.view 1 rfl)⟩) hm74 (fun y72 => ?_)
     refine oN 1 [(6, .v (.slice y72.1 l73.length y72.2))] [26, 25, 24, 1] ?_
     refine oe (bn (nt (qr (oN 2 [(26, vi (w64 (s43.1 + 1)))] [6, 25, 24, 1] ?_))))
     exact oe (ct h75 (y72.1, y72.2) [26, 25, 24, 6, 1] [0] 0)
   refine qx (nx (nx (bh ?_)))
   have h76 := leafB hd52 h58 h48
   exact mp (s43.2, (y44.1, y44.2)) h76 [6] [0] 0
 have h55 := (congrFun hk50 _).symm.trans h55p
 refine nt (qs (qr (oN 3 [(5, vb true), (4, .v (.slice y54.2.1 y54.1.length y54.2.2))] [] ?_)))
 refine oe (nt (qe (rt [.slice y54.2.1 y54.1.length y54.2.2, .bool true] (fun γ w hs => ?_))))
 rw [← sI h55]
 exact ⟨y54.2, rfl, hs.kept.toBelow, (hs.takeR (is := [0]) rfl).fresh⟩

theorem c_impl_Eval {W : World} {x0 : List Node} {a0_0 : Option Addr} {c0_0 : Nat} {x1 : List Frac} {a1_0 : Option Addr} {c1_0 : Nat} {r : Frac × Bool} (h : impl_Eval x0 x1 = some r) (hv0_0 : SlView W x0 a0_0 c0_0) (hv1_0 : SlView W x1 a1_0 c1_0) :
    Gives0 Tryz.prog 152 #[.slice a0_0 x0.length c0_0, .slice a1_0 x1.length c1_0] W (.tuple #[vFrac r.1, .bool r.2]) := by
 unfold impl_Eval at h
 refine en Tryz.func152 Tryz.ntmps152 ?_
 refine qs (qr (oB 2 [(4, .p 0 0)] [0, 1] [(133, (eFrac (Frac.mk 0 0)))] ?_))
 refine oe (nt (qs (qr (oN 2 [(10, .v (.slice a1_0 x1.length c1_0)), (9, .v (.slice a0_0 x0.length c0_0))] [4] ?_))))
 obtain ⟨t21, h22, h23⟩ := bS h
 refine k1 (fun γ w hs => c_impl_EvalAll h22 (hv0_0.kept hs.kept) (hv1_0.kept hs.kept)) (fun y24 => ?_)
 refine oN 5 [(7, vb t21.2), (6, .v (.slice y24.1 t21.1.length y24.2))] [4] ?_
 refine oe (nt (qs (qs (qr (oN 2 [(15, vb (!t21.2))] [6, 4] ?_)))))
 refine oe (nt (cC h23 (fun h26 => ?_) (fun h27 => ?_)))
 · refine qs (qr (oN 3 [(5, vb false)] [4] ?_))
   refine oe (nt (qe (nr ?_)))
   obtain rfl := sI h26
   exact re [vFrac (Frac.mk 0 0), .bool false]
 refine qk (nt (qs (qr (oN 4 [(20, vi (w64 ((t21.1.length : Int) - 1))), (17, .v (.slice y24.1 t21.1.length y24.2))] [4] ?_))))
 obtain ⟨x28, hx29, h30⟩ := bS h27
 refine oi 2 (fun γ w hs => (hs.view 0 rfl)) hx29 ?_
 refine ol 133 0 (vFrac x28) (fun γ w hs => (hs.view 0 rfl).flatq hx29) ?_
 refine oB 2 [(5, vb true)] [4] [(133, (eFrac x28))] ?_
 refine oe (nt (qe ?_))
 obtain rfl := sI h30
 exact re [vFrac x28, .bool true]

theorem c_impl_floorDiv {W : World} {x0 : Int} {x1 : Int} {r : Int} (h : impl_floorDiv x0 x1 = some r)  :
    Gives0 Tryz.prog 192 #[.int .i64 x0, .int .i64 x1] W (.int .i64 r) := by
 unfold impl_floorDiv at h
 refine en Tryz.func192 Tryz.ntmps192 ?_
 refine qs (qr (oN 1 [] [0, 1] ?_))
 refine oe (nt (qs (qr (oN 2 [(7, vi x1), (6, vi x0)] [0, 1] ?_))))
 obtain ⟨u23, hz22, h21⟩ := bS h
 refine JO_div rfl (by kernel_rfl) (op := .quo) (k := .i64) (x := x0) (y := x1) (by kernel_rfl) (nz_some hz22) rfl ?_
 refine oN 1 [(5, vi (w64 (Int.tdiv x0 x1)))] [0, 1] ?_
 refine oe (nt (qs (qs (qr (oN 2 [(10, vi x1), (9, vi x0)] [5] ?_)))))
 obtain ⟨u26, hz25, h24⟩ := bS h21
 refine JO_div rfl (by kernel_rfl) (op := .rem) (k := .i64) (x := x0) (y := x1) (by kernel_rfl) (nz_some hz25) rfl ?_
 refine oN 1 [(12, vb (decide ((Int.tmod x0 x1) < 0)))] [5] ?_
 refine oe (nt ?_)
 obtain ⟨k30, hk31, h33⟩ := jS h24
 refine JC_cutP (τ := (Int) × (Unit)) (fun y => k30 y.1 = some r) (fun y29 => [(5, vi y29.1)]) (fun y29 => []) (fun y29 => []) ?_ (fun y29 h32p => ?_)
 · refine cC h33 (fun h35 => ?_) (fun h36 => ?_)
   · refine qr (oN 3 [(5, vi (w64 ((w64 (Int.tdiv x0 x1)) - 1)))] [] ?_)
     exact oe (mp (w64 ((w64 (Int.tdiv x0 x1)) - 1), ()) h35 [5] [] 0)
   exact qk (mp (w64 (Int.tdiv x0 x1), ()) h36 [5] [] 0)
 have h32 := (congrFun hk31 _).symm.trans h32p
 refine nt (qs (qr (oN 2 [(4, vi y29.1)] [] ?_)))
 refine oe (nt (qe ?_))
 obtain rfl := sI h32
 exact re [.int .i64 y29.1]

theorem c_impl_RoundFrac {W : World} {x0 : Frac} {x1 : Int} {r : Int × Bool} (h : impl_RoundFrac x0 x1 = some r)  :
    Gives0 Tryz.prog 153 #[vFrac x0, .int .i64 x1] W (.tuple #[.int .i64 r.1, .bool r.2]) := by
 unfold impl_RoundFrac at h
 refine en Tryz.func153 Tryz.ntmps153 ?_
 refine qs (qr (oB 3 [(2, .p 0 0)] [1] [(133, (eFrac x0))] ?_))
 refine oe (nt (qs (qs ?_)))
 obtain ⟨p21, hE22, h23⟩ := bS h
 refine JC_cut (τ := Unit) (fun _ => [(1, vi x1), (2, .p 0 0), (16, vb p21)]) (fun _ => [(133, (eFrac x0))]) (fun _ => []) ?_ (fun _ => ?_)
 · refine qr (oN 1 [(9, .v (vFrac x0))] [2, 1] ?_)
   obtain ⟨t24, h25, h26⟩ := bS hE22
   refine k0 (fun γ w hs => c_impl_FracOk h25) ?_
   refine oN 2 [(12, vb (!t24))] [2, 1] ?_
   refine oS 12 h26 (fun h29 => ?_) (fun h30 => ?_)
   · refine oN 4 [(16, vb true)] [2, 1] ?_
     refine oe ?_
     obtain rfl := sI h29
     exact mt () [1, 2, 16] [] 1
   refine oN 1 [(13, vi x1)] [12, 2, 1] ?_
   obtain ⟨t31, h32, h33⟩ := bS h30
   refine k0 (fun γ w hs => c_impl_within h32) ?_
   refine oN 2 [(16, vb (!t31))] [2, 1] ?_
   refine oe ?_
   obtain rfl := sI h33
   exact mt () [1, 2, 16] [] 1
 refine nt (cC h23 (fun h36 => ?_) (fun h37 => ?_))
 · refine qs (qr (oN 2 [(5, vb false), (4, vi 0)] [] ?_))
   refine oe (nt (qe (nr ?_)))
   obtain rfl := sI h36
   exact re [.int .i64 0, .bool false]
 refine qk (nt (qs (qr (oN 4 [(20, vi x0.Den), (18, vi x0.Num)] [1, 2] ?_))))
 obtain ⟨t38, h39, h40⟩ := bS h37
 refine k0 (fun γ w hs => c_impl_floorDiv h39) ?_
 refine oN 1 [(6, vi t38)] [1, 2] ?_
 refine oe (nt (qs (qr (oN 8 [(7, vi (w64 (x0.Num - (w64 (t38 * x0.Den)))))] [6, 1, 2] ?_))))
 refine oe (nt (qs (qr (oN 1 [(8, vb false)] [7, 6, 1, 2] ?_))))
 refine oe (nt (qs (qs (qr (oN 1 [(29, vi x1)] [8, 7, 6, 2] ?_)))))
 refine oe (nt (qb (qs (qr (oN 2 [(30, vb (x1 == 2))] [29, 8, 7, 6, 2] ?_)))))
 refine oe (nt ?_)
 obtain ⟨k60, hk61, h73⟩ := jS h40
 refine JC_cutP (τ := (Bool) × (Unit)) (fun y => k60 y.1 = some r) (fun y59 => [(8, vb y59.1), (6, vi t38)]) (fun y59 => [(133, (eFrac x0))]) (fun y59 => []) ?_ (fun y59 h62p => ?_)
 · refine cC h73 (fun h75 => ?_) (fun h76 => ?_)
   · refine qr (oN 3 [(8, vb (decide ((w64 (x0.Num - (w64 (t38 * x0.Den)))) > 0)))] [6] ?_)
     exact oe (mp (decide ((w64 (x0.Num - (w64 (t38 * x0.Den)))) > 0), ()) h75 [8, 6] [] 1)
   refine qs (qr (oN 2 [(34, vb (x1 == 3))] [29, 8, 7, 6, 2] ?_))
   refine oe (nt (cC h76 (fun h78 => ?_) (fun h79 => ?_)))
   · refine qr (oN 6 [(8, vb (decide ((w64 (2 * (w64 (x0.Num - (w64 (t38 * x0.Den)))))) ≥ x0.Den)))] [6] ?_)
     exact oe (mp (decide ((w64 (2 * (w64 (x0.Num - (w64 (t38 * x0.Den)))))) ≥ x0.Den), ()) h78 [8, 6] [] 1)
   refine qs (qr (oN 2 [(41, vb (x1 == 4))] [8, 7, 6, 2] ?_))
   refine oe (nt (cC h79 (fun h81 => ?_) (fun h82 => ?_)))
   · obtain ⟨p83, hE84, h85⟩ := bS h81
     refine JC_cut (τ := Unit) (fun _ => [(6, vi t38), (8, vb p83)]) (fun _ => [(133, (eFrac x0))]) (fun _ => []) ?_ (fun _ => ?_)
     · refine qr (oN 6 [(48, vb (decide ((w64 (2 * (w64 (x0.Num - (w64 (t38 * x0.Den)))))) > x0.Den)))] [7, 6, 2] ?_)
       refine oS 48 hE84 (fun h87 => ?_) (fun h88 => ?_)
       · refine oN 12 [(8, vb true)] [6] ?_
         refine oe ?_
         obtain rfl := sI h87
         exact mt () [6, 8] [] 1
       refine oN 6 [(54, vb ((w64 (2 * (w64 (x0.Num - (w64 (t38 * x0.Den)))))) == x0.Den))] [48, 6] ?_
       refine oS 54 h88 (fun h90 => ?_) (fun h91 => ?_)
       · refine oN 6 [(8, vb ((Int.tmod t38 2) != 0))] [6] ?_
         refine oe ?_
         obtain rfl := sI h90
         exact mt () [6, 8] [] 1
       refine oN 6 [(8, vb false)] [6] ?_
       refine oe ?_
       obtain rfl := sI h91
       exact mt () [6, 8] [] 1
     exact mp (p83, ()) h85 [8, 6] [] 1
   exact qk (mp (false, ()) h82 [8, 6] [] 1)
 have h62 := (congrFun hk61 _).symm.trans h62p
 refine bn (nt (qs (qs (qr (oN 1 [(60, vb y59.1)] [6] ?_)))))
 refine oe (nt ?_)
 obtain ⟨k66, hk67, h69⟩ := jS h62
 refine JC_cutP (τ := (Int) × (Unit)) (fun y => k66 y.1 = some r) (fun y65 => [(6, vi y65.1)]) (fun y65 => [(133, (eFrac x0))]) (fun y65 => []) ?_ (fun y65 h68p => ?_)
 · refine cC h69 (fun h71 => ?_) (fun h72 => ?_)
   · refine qr (oN 3 [(6, vi (w64 (t38 + 1)))] [] ?_)
     exact oe (mp (w64 (t38 + 1), ()) h71 [6] [] 1)
   exact qk (mp (t38, ()) h72 [6] [] 1)
 have h68 := (congrFun hk67 _).symm.trans h68p
 refine nt (qs (qr (oN 3 [(5, vb true), (4, vi y65.1)] [] ?_)))
 refine oe (nt (qe ?_))
 obtain rfl := sI h68
 exact re [.int .i64 y65.1, .bool true]

theorem c_impl_Figure {W : World} {x0 : Book} {a0_0 : Option Addr} {c0_0 : Nat} {x1 : Int} {x2 : Int} {x3 : Int} {x4 : List Frac} {a4_0 : Option Addr} {c4_0 : Nat} {r : Int × Int × Bool} (h : impl_Figure x0 x1 x2 x3 x4 = some r) (hv0_0 : SlView W x0.Rules a0_0 c0_0) (hv4_0 : SlView W x4 a4_0 c4_0) :
    Gives0 Tryz.prog 103 #[vBook x0 (a0_0, c0_0), .int .i64 x1, .int .i64 x2, .int .i64 x3, .slice a4_0 x4.length c4_0] W (.tuple #[.int .i64 r.1, .int .i64 r.2.1, .bool r.2.2]) := by
 unfold impl_Figure at h
 refine en Tryz.func103 Tryz.ntmps103 ?_
 refine qs (qr (oB 4 [(5, .p 0 0)] [1, 2, 3, 4] [(26, (eBook x0 (a0_0, c0_0)))] ?_))
 refine oe (nt (qs (qr (oN 4 [(21, vi x3), (20, vi x2), (19, vi x1), (18, .v (vBook x0 (a0_0, c0_0)))] [5, 4] ?_))))
 obtain ⟨t21, h22, h23⟩ := bS h
 refine k0 (fun γ w hs => c_impl_RuleFor h22 (hv0_0.kept hs.kept)) ?_
 refine oN 1 [(13, vi t21)] [5, 4] ?_
 refine oe (nt (qs (qs (qr (oN 2 [(24, vb (decide (t21 < 0)))] [13, 5, 4] ?_)))))
 refine oe (nt (cC h23 (fun h26 => ?_) (fun h27 => ?_)))
 · refine qs (qr (oN 3 [(12, vb false), (11, vi 0), (10, vi 0)] [] ?_))
   refine oe (nt (qe (nr ?_)))
   obtain rfl := sI h26
   exact re [.int .i64 0, .int .i64 0, .bool false]
 refine qk (nt (qs (qr (oN 3 [(28, vi t21), (27, .v (.slice a0_0 x0.Rules.length c0_0))] [13, 5, 4] ?_))))
 obtain ⟨x28, hx29, h30⟩ := bS h27
 refine oi 7 (fun γ w hs => (hv0_0.kept hs.kept)) hx29 ?_
 refine oN 1 [(30, .q a0_0 (Int.toNat t21 * 7 + 6))] [13, 5, 4] ?_
 obtain ⟨_, ⟨a31, c32, rfl, hv33⟩, hc34⟩ := SlView.at hv0_0 (idx_some hx29).2.2
 refine ol 74 6 (.slice a31 x28.Nodes.length c32) (fun γ w hs => ⟨(hv0_0.kept hs.kept).ne (idx_some hx29).2.2, hc34.kept hs.kept⟩) ?_
 refine oN 1 [(32, .v (.slice a4_0 x4.length c4_0))] [31, 13, 5] ?_
 obtain ⟨t35, h36, h37⟩ := bS h30
 refine k0 (fun γ w hs => c_impl_Eval h36 (hv33.kept hs.kept) (hv4_0.kept hs.kept)) ?_
 refine oB 6 [(15, vb t35.2), (14, .p 1 0)] [13, 5] [(26, (eBook x0 (a0_0, c0_0))), (133, (eFrac t35.1))] ?_
 refine oe (nt (qs (JC_quiet (by kernel_rfl) (by kernel_rfl) ?_)))
 refine qN 4 [(40, vi t21), (39, .v (.slice a0_0 x0.Rules.length c0_0)), (37, .v (vFrac t35.1))] [15, 13] ?_
 obtain ⟨x39, hx40, h41⟩ := bS h37
 refine qi 7 (fun γ w hs => (hv0_0.kept hs.kept)) hx40 ?_
 refine qN 1 [(42, .q a0_0 (Int.toNat t21 * 7 + 5))] [37, 15, 13] ?_
 obtain ⟨_, ⟨a42, c43, rfl, hv44⟩, hc45⟩ := SlView.at hv0_0 (idx_some hx40).2.2
 refine ql 3 5 (.int .i64 x39.Mode) (fun γ w hs => ⟨(hv0_0.kept hs.kept).ne (idx_some hx40).2.2, hc45.kept hs.kept⟩) ?_
 obtain ⟨t46, h47, h48⟩ := bS h41
 refine q0 (fun γ w hs => c_impl_RoundFrac h47) ?_
 refine qN 5 [(17, vb t46.2), (16, vi t46.1)] [15, 13] ?_
 refine qz (nt (qs (qs ?_)))
 obtain ⟨p50, hE51, h52⟩ := bS h48
 refine JC_cut (τ := Unit) (fun _ => [(13, vi t21), (16, vi t46.1), (52, vb p50)]) (fun _ => [(26, (eBook x0 (a0_0, c0_0))), (133, (eFrac t35.1))]) (fun _ => []) ?_ (fun _ => ?_)
 · refine qr (oN 3 [(49, vb (!t35.2))] [17, 16, 13] ?_)
   refine oS 49 hE51 (fun h54 => ?_) (fun h55 => ?_)
   · refine oN 3 [(52, vb true)] [16, 13] ?_
     refine oe ?_
     obtain rfl := sI h54
     exact mt () [13, 16, 52] [] 2
   refine oN 3 [(52, vb (!t46.2))] [16, 13] ?_
   refine oe ?_
   obtain rfl := sI h55
   exact mt () [13, 16, 52] [] 2
 refine nt (cC h52 (fun h57 => ?_) (fun h58 => ?_))
 · refine qs (qr (oN 3 [(12, vb false), (11, vi 0), (10, vi 0)] [] ?_))
   refine oe (nt (qe (nr ?_)))
   obtain rfl := sI h57
   exact re [.int .i64 0, .int .i64 0, .bool false]
 refine qk (nt (qs (qr (oN 5 [(12, vb true), (11, vi t21), (10, vi t46.1)] [] ?_))))
 refine oe (nt (qe ?_))
 obtain rfl := sI h58
 exact re [.int .i64 t46.1, .int .i64 t21, .bool true]

theorem c_impl_EntitlementAt {W : World} {x0 : Case} {b0 : AC × AC × AC × AC × AC} {x1 : Int} {x2 : Int} {r : Int} (h : impl_EntitlementAt x0 x1 x2 = some r) (hv0_0 : SlView W x0.Book.Rules b0.1.1 b0.1.2) (hv0_1 : SlView W x0.Store.Facts b0.2.1.1 b0.2.1.2) (hv0_2 : SlView W x0.Series.Points b0.2.2.1.1 b0.2.2.1.2) (hv0_3 : SlView W x0.Member.Spells b0.2.2.2.1.1 b0.2.2.2.1.2) (hv0_4 : SlView W x0.Member.Events b0.2.2.2.2.1 b0.2.2.2.2.2) :
    Gives0 Tryz.prog 60 #[vCase x0 b0, .int .i64 x1, .int .i64 x2] W (.int .i64 r) := by
 unfold impl_EntitlementAt at h
 refine en Tryz.func60 Tryz.ntmps60 ?_
 refine qs (qr (oB 2 [(3, .p 0 0)] [1, 2] [(38, (eCase x0 b0))] ?_))
 refine oe (nt (qs (qs ?_)))
 obtain ⟨p21, hE22, h23⟩ := bS h
 refine JC_cut (τ := Unit) (fun _ => [(1, vi x1), (2, vi x2), (3, .p 0 0), (22, vb p21)]) (fun _ => [(38, (eCase x0 b0))]) (fun _ => []) ?_ (fun _ => ?_)
 · refine qr (oN 1 [(12, .v (vCase x0 b0))] [3, 1, 2] ?_)
   obtain ⟨t24, h25, h26⟩ := bS hE22
   refine k0 (fun γ w hs => c_impl_CaseOk (b0 := b0) h25 (hv0_0.kept hs.kept) (hv0_1.kept hs.kept) (hv0_2.kept hs.kept) (hv0_3.kept hs.kept) (hv0_4.kept hs.kept)) ?_
   refine oN 2 [(15, vb (!t24))] [3, 1, 2] ?_
   refine oS 15 h26 (fun h29 => ?_) (fun h30 => ?_)
   · refine oN 7 [(22, vb true)] [3, 1, 2] ?_
     refine oe ?_
     obtain rfl := sI h29
     exact mt () [1, 2, 3, 22] [] 1
   refine oN 4 [(19, vi x1), (18, .v (.slice b0.2.2.2.2.1 x0.Member.Events.length b0.2.2.2.2.2))] [15, 3, 1, 2] ?_
   obtain ⟨t31, h32, h33⟩ := bS h30
   refine k0 (fun γ w hs => c_impl_StatusAt h32 (hv0_4.kept hs.kept)) ?_
   refine oN 2 [(22, vb (t31 != 3))] [3, 1, 2] ?_
   refine oe ?_
   obtain rfl := sI h33
   exact mt () [1, 2, 3, 22] [] 1
 refine nt (cC h23 (fun h36 => ?_) (fun h37 => ?_))
 · refine qs (qr (oN 1 [(6, vi 0)] [] ?_))
   refine oe (nt (qe (nr ?_)))
   obtain rfl := sI h36
   exact re [.int .i64 0]
 refine qk (nt (qs (qr (oN 3 [(26, vi x2), (25, vi x1), (24, .v (vCase x0 b0))] [1, 3] ?_))))
 obtain ⟨t38, h39, h40⟩ := bS h37
 refine k1 (fun γ w hs => c_impl_VarsFor (b0 := b0) h39 (hv0_0.kept hs.kept) (hv0_1.kept hs.kept) (hv0_2.kept hs.kept) (hv0_3.kept hs.kept) (hv0_4.kept hs.kept)) (fun y41 => ?_)
 refine oN 5 [(8, vb t38.2), (7, .v (.slice y41.1 t38.1.length y41.2))] [1, 3] ?_
 refine oe (nt (qs (qr (oN 7 [(37, .v (.slice y41.1 t38.1.length y41.2)), (36, vi x0.Member.Joined), (33, vi x1), (32, .v (vBook x0.Book b0.1))] [8] ?_))))
 obtain ⟨t42, h43, h44⟩ := bS h40
 refine k0 (fun γ w hs => c_impl_Figure h43 (hv0_0.kept hs.kept) (hs.view 0 rfl)) ?_
 refine oN 7 [(11, vb t42.2.2), (9, vi t42.1)] [8] ?_
 refine oe (nt (qs (qs ?_)))
 obtain ⟨p46, hE47, h48⟩ := bS h44
 refine JC_cut (τ := Unit) (fun _ => [(9, vi t42.1), (47, vb p46)]) (fun _ => [(38, (eCase x0 b0))]) (fun _ => []) ?_ (fun _ => ?_)
 · refine qr (oN 3 [(44, vb (!t38.2))] [11, 9] ?_)
   refine oS 44 hE47 (fun h50 => ?_) (fun h51 => ?_)
   · refine oN 3 [(47, vb true)] [9] ?_
     refine oe ?_
     obtain rfl := sI h50
     exact mt () [9, 47] [] 1
   refine oN 3 [(47, vb (!t42.2.2))] [9] ?_
   refine oe ?_
   obtain rfl := sI h51
   exact mt () [9, 47] [] 1
 refine nt (cC h48 (fun h53 => ?_) (fun h54 => ?_))
 · refine qs (qr (oN 1 [(6, vi 0)] [] ?_))
   refine oe (nt (qe (nr ?_)))
   obtain rfl := sI h53
   exact re [.int .i64 0]
 refine qk (nt (qs (qr (oN 4 [(6, vi (imax 0 (imin t42.1 10000000)))] [] ?_))))
 refine oe (nt (qe ?_))
 obtain rfl := sI h54
 exact re [.int .i64 (imax 0 (imin t42.1 10000000))]

theorem c_impl_DueNow {W : World} {x0 : Office} {b0 : AC × AC × AC × AC × AC × AC} {r : Int} (h : impl_DueNow x0 = some r) (hv0_0 : SlView W x0.Case.Book.Rules b0.1.1 b0.1.2) (hv0_1 : SlView W x0.Case.Store.Facts b0.2.1.1 b0.2.1.2) (hv0_2 : SlView W x0.Case.Series.Points b0.2.2.1.1 b0.2.2.1.2) (hv0_3 : SlView W x0.Case.Member.Spells b0.2.2.2.1.1 b0.2.2.2.1.2) (hv0_4 : SlView W x0.Case.Member.Events b0.2.2.2.2.1.1 b0.2.2.2.2.1.2) (hv0_5 : SlView W x0.Paid b0.2.2.2.2.2.1 b0.2.2.2.2.2.2) :
    Gives0 Tryz.prog 37 #[vOffice x0 b0] W (.int .i64 r) := by
 unfold impl_DueNow at h
 refine en Tryz.func37 Tryz.ntmps37 ?_
 refine qs (qr (oB 2 [(1, .p 0 0)] [] [(41, (eOffice x0 b0))] ?_))
 refine oe (nt (qs (qs (qr (oN 1 [(5, .v (vOffice x0 b0))] [1] ?_)))))
 obtain ⟨t21, h22, h23⟩ := bS h
 refine k0 (fun γ w hs => c_impl_OfficeOk (b0 := b0) h22 (hv0_0.kept hs.kept) (hv0_1.kept hs.kept) (hv0_2.kept hs.kept) (hv0_3.kept hs.kept) (hv0_4.kept hs.kept) (hv0_5.kept hs.kept)) ?_
 refine oN 1 [(7, vb (!t21))] [1] ?_
 refine oe (nt (cC h23 (fun h26 => ?_) (fun h27 => ?_)))
 · refine qs (qr (oN 1 [(2, vi 0)] [] ?_))
   refine oe (nt (qe (nr ?_)))
   obtain rfl := sI h26
   exact re [.int .i64 0]
 refine qk (nt (qs (qr (oN 2 [(9, .v (.slice b0.2.2.2.2.2.1 x0.Paid.length b0.2.2.2.2.2.2))] [1] ?_))))
 obtain ⟨t28, h29, h30⟩ := bS h27
 refine k0 (fun γ w hs => c_impl_total h29 (hv0_5.kept hs.kept)) ?_
 refine oN 2 [(3, vi (w64 (0 - t28)))] [1] ?_
 refine oe (nt (qs (qs (qr (oN 3 [(4, vi x0.Start)] [3, 1] ?_)))))
 refine oe (nt ?_)
 obtain ⟨r35, hL36, h37⟩ := bS h30
 obtain ⟨k38, hk39, h37⟩ := brkS h37
 refine JC_cutP (τ := (Int × Int × Int × Int) × (Unit)) (fun y => k38 y.1 = some r) (fun y43 => [(3, vi y43.1.1)]) (fun y43 => [(41, (eOffice (Office.mk (Case.mk x0.Case.Book x0.Case.Store x0.Case.Series (Member.mk y43.1.2.1 y43.1.2.2.1 x0.Case.Member.Spells x0.Case.Member.Events)) y43.1.2.2.2 x0.Paid) b0))]) (fun y43 => []) ?_ (fun y43 h44p => ?_)
 · refine qb (lp Unit hL36 (fun s32 y33 => [(4, vi s32.1), (3, vi s32.2), (1, .p 0 0)]) (fun s32 y33 => [(41, (eOffice x0 b0))]) (fun s32 y33 => []) () [4, 3, 1] [] 1 (fun s32 y33 t34 h40 hd41 => ?_))
   refine qs (qs (qr (oN 2 [(15, .v (vOffice x0 b0)), (14, vi s32.1)] [4, 3, 1] ?_)))
   obtain ⟨t45, h46, h47⟩ := bS h40
   refine k0 (fun γ w hs => c_impl_now (b0 := b0) h46 (hv0_0.kept hs.kept) (hv0_1.kept hs.kept) (hv0_2.kept hs.kept) (hv0_3.kept hs.kept) (hv0_4.kept hs.kept) (hv0_5.kept hs.kept)) ?_
   refine oN 1 [(17, vb (decide (s32.1 ≤ t45)))] [4, 3, 1] ?_
   refine oe (nt (cC h47 (fun h50 => ?_) (fun h51 => ?_)))
   · refine qk (nt (qs (qb (JC_quiet (by kernel_rfl) (by kernel_rfl) ?_))))
     refine qN 5 [(24, .v (vOffice x0 b0)), (23, vi s32.1), (22, .v (vCase x0.Case (b0.1, b0.2.1, b0.2.2.1, b0.2.2.2.1, b0.2.2.2.2.1))), (20, vi s32.2)] [4, 1] ?_
     obtain ⟨t52, h53, h54⟩ := bS h50
     refine q0 (fun γ w hs => c_impl_now (b0 := b0) h53 (hv0_0.kept hs.kept) (hv0_1.kept hs.kept) (hv0_2.kept hs.kept) (hv0_3.kept hs.kept) (hv0_4.kept hs.kept) (hv0_5.kept hs.kept)) ?_
     obtain ⟨t56, h57, h58⟩ := bS h54
     refine q0 (fun γ w hs => c_impl_EntitlementAt (b0 := (b0.1, b0.2.1, b0.2.2.1, b0.2.2.2.1, b0.2.2.2.2.1)) h57 (hv0_0.kept hs.kept) (hv0_1.kept hs.kept) (hv0_2.kept hs.kept) (hv0_3.kept hs.kept) (hv0_4.kept hs.kept)) ?_
     refine qN 2 [(3, vi (w64 (s32.2 + t56)))] [4, 1] ?_
     refine qz (bn (nt (qr (oN 3 [(4, vi (w64 (s32.1 + 1)))] [3, 1] ?_))))
     exact oe (ct h58 () [4, 3, 1] [] 1)
   refine qx (nx (nx (bh ?_)))
   have h60 := leafB hd41 h51 h37
   exact mp ((s32.2, x0.Case.Member.Birth, x0.Case.Member.Joined, x0.Start), ()) h60 [3] [] 1
 have h44 := (congrFun hk39 _).symm.trans h44p
 refine nt (qs (qr (oN 2 [(2, vi y43.1.1)] [] ?_)))
 refine oe (nt (qe ?_))
 obtain rfl := sI h44
 exact re [.int .i64 y43.1.1]

theorem c_impl_PayMonth {W : World} {x0 : Office} {b0 : AC × AC × AC × AC × AC × AC} {r : Office × Int × Bool} (h : impl_PayMonth x0 = some r) (hv0_0 : SlView W x0.Case.Book.Rules b0.1.1 b0.1.2) (hv0_1 : SlView W x0.Case.Store.Facts b0.2.1.1 b0.2.1.2) (hv0_2 : SlView W x0.Case.Series.Points b0.2.2.1.1 b0.2.2.1.2) (hv0_3 : SlView W x0.Case.Member.Spells b0.2.2.2.1.1 b0.2.2.2.1.2) (hv0_4 : SlView W x0.Case.Member.Events b0.2.2.2.2.1.1 b0.2.2.2.2.1.2) (hv0_5 : SlView W x0.Paid b0.2.2.2.2.2.1 b0.2.2.2.2.2.2) :
    Gives Tryz.prog 28 #[vOffice x0 b0] W (fun y : AC × AC × AC × AC × AC × AC => .tuple #[vOffice r.1 y, .int .i64 r.2.1, .bool r.2.2]) (fun y => [SlRes 76 r.1.Case.Book.Rules y.1.1 y.1.2, SlRes 47 r.1.Case.Store.Facts y.2.1.1 y.2.1.2, SlRes 52 r.1.Case.Series.Points y.2.2.1.1 y.2.2.1.2, SlRes 156 r.1.Case.Member.Spells y.2.2.2.1.1 y.2.2.2.1.2, SlRes 158 r.1.Case.Member.Events y.2.2.2.2.1.1 y.2.2.2.2.1.2, SlRes 3 r.1.Paid y.2.2.2.2.2.1 y.2.2.2.2.2.2]) := by
 unfold impl_PayMonth at h
 refine en Tryz.func28 Tryz.ntmps28 ?_
 refine qs (qr (oB 4 [(2, .p 1 0), (1, .p 0 0)] [] [(41, (eOffice x0 b0)), (41, [.slice none 0 0, .slice none 0 0, .slice none 0 0, .int .i64 0, .int .i64 0, .slice none 0 0, .slice none 0 0, .int .i64 0, .slice none 0 0])] ?_))
 refine oe (nt (qs (qr (oN 1 [(7, .v (vOffice x0 b0))] [2, 1] ?_))))
 obtain ⟨t21, h22, h23⟩ := bS h
 refine k1 (fun γ w hs => c_impl_copyOffice (b0 := b0) h22 (hv0_0.kept hs.kept) (hv0_1.kept hs.kept) (hv0_2.kept hs.kept) (hv0_3.kept hs.kept) (hv0_4.kept hs.kept) (hv0_5.kept hs.kept)) (fun y24 => ?_)
 refine oB 2 [(5, .p 2 0)] [2, 1] [(41, (eOffice x0 b0)), (41, [.slice none 0 0, .slice none 0 0, .slice none 0 0, .int .i64 0, .int .i64 0, .slice none 0 0, .slice none 0 0, .int .i64 0, .slice none 0 0]), (41, (eOffice t21 y24))] ?_
 refine oe (nt (qs (qr (oN 1 [(9, .v (vOffice x0 b0))] [5, 2, 1] ?_))))
 obtain ⟨t25, h26, h27⟩ := bS h23
 refine k0 (fun γ w hs => c_impl_DueNow (b0 := b0) h26 (hv0_0.kept hs.kept) (hv0_1.kept hs.kept) (hv0_2.kept hs.kept) (hv0_3.kept hs.kept) (hv0_4.kept hs.kept) (hv0_5.kept hs.kept)) ?_
 refine oN 2 [(6, vi (imax 0 t25))] [5, 2, 1] ?_
 refine oe (nt (qs (qr (oN 3 [(14, vi (imax 0 t25)), (13, .v (.slice y24.2.2.2.2.2.1 t21.Paid.length y24.2.2.2.2.2.2))] [6, 5, 2, 1] ?_))))
 refine ob [] [SlRes 76 t21.Case.Book.Rules y24.1.1 y24.1.2, SlRes 47 t21.Case.Store.Facts y24.2.1.1 y24.2.1.2, SlRes 52 t21.Case.Series.Points y24.2.2.1.1 y24.2.2.1.2, SlRes 156 t21.Case.Member.Spells y24.2.2.2.1.1 y24.2.2.2.1.2, SlRes 158 t21.Case.Member.Events y24.2.2.2.2.1.1 y24.2.2.2.2.1.2, SlRes 3 t21.Paid y24.2.2.2.2.2.1 y24.2.2.2.2.2.2] 3 1 [.int .i64 (imax 0 t25)] ([imax 0 t25] : List Int) (own_flat (by kernel_rfl)) (fun y29 => ?_)
 refine JO_res (R' := [SlRes 3 t21.Paid y24.2.2.2.2.2.1 y24.2.2.2.2.2.2, SlRes 3 ([imax 0 t25] : List Int) y29.1 y29.2, SlRes 76 t21.Case.Book.Rules y24.1.1 y24.1.2, SlRes 47 t21.Case.Store.Facts y24.2.1.1 y24.2.1.2, SlRes 52 t21.Case.Series.Points y24.2.2.1.1 y24.2.2.1.2, SlRes 156 t21.Case.Member.Spells y24.2.2.2.1.1 y24.2.2.2.1.2, SlRes 158 t21.Case.Member.Events y24.2.2.2.2.1.1 y24.2.2.2.2.1.2]) [6, 0, 0, 0, 0, 0, 0] (by kernel_rfl) ?_
 obtain ⟨l32, hm33, h34⟩ := bS h27
 refine oa 39 y29.2 Tryz.t3 (.int .i64 0) (fun γ w hs => ⟨y29.2, (hs.view 1 rfl)⟩) hm33 (fun y31 => ?_)
 refine oB 2 [] [6, 5, 2, 1] [(41, (eOffice x0 b0)), (41, [.slice none 0 0, .slice none 0 0, .slice none 0 0, .int .i64 0, .int .i64 0, .slice none 0 0, .slice none 0 0, .int .i64 0, .slice none 0 0]), (41, (eOffice (Office.mk t21.Case t21.Start l32) (y24.1, y24.2.1, y24.2.2.1, y24.2.2.2.1, y24.2.2.2.2.1, y31)))] ?_
 refine oe (nt (qs (qs ?_)))
 obtain ⟨p35, hE36, h37⟩ := bS h34
 refine JC_cut (τ := Unit) (fun _ => [(1, .p 0 0), (2, .p 1 0), (5, .p 2 0), (6, vi (imax 0 t25)), (25, vb p35)]) (fun _ => [(41, (eOffice x0 b0)), (41, [.slice none 0 0, .slice none 0 0, .slice none 0 0, .int .i64 0, .int .i64 0, .slice none 0 0, .slice none 0 0, .int .i64 0, .slice none 0 0]), (41, (eOffice (Office.mk t21.Case t21.Start l32) (y24.1, y24.2.1, y24.2.2.1, y24.2.2.2.1, y24.2.2.2.2.1, y31)))]) (fun _ => [SlRes 76 t21.Case.Book.Rules y24.1.1 y24.1.2, SlRes 47 t21.Case.Store.Facts y24.2.1.1 y24.2.1.2, SlRes 52 t21.Case.Series.Points y24.2.2.1.1 y24.2.2.1.2, SlRes 156 t21.Case.Member.Spells y24.2.2.2.1.1 y24.2.2.2.1.2, SlRes 158 t21.Case.Member.Events y24.2.2.2.2.1.1 y24.2.2.2.2.1.2, SlRes 3 l32 y31.1 y31.2]) ?_ (fun _ => ?_)
 · refine qr (oN 1 [(18, .v (vOffice x0 b0))] [6, 5, 2, 1] ?_)
   obtain ⟨t38, h39, h40⟩ := bS hE36
   refine k0 (fun γ w hs => c_impl_OfficeOk (b0 := b0) h39 (hv0_0.kept hs.kept) (hv0_1.kept hs.kept) (hv0_2.kept hs.kept) (hv0_3.kept hs.kept) (hv0_4.kept hs.kept) (hv0_5.kept hs.kept)) ?_
   refine oN 2 [(21, vb (!t38))] [6, 5, 2, 1] ?_
   refine oS 21 h40 (fun h43 => ?_) (fun h44 => ?_)
   · refine oN 4 [(25, vb true)] [6, 5, 2, 1] ?_
     refine oe ?_
     obtain rfl := sI h43
     exact mt () [1, 2, 5, 6, 25] [2, 2, 2, 2, 2, 0] 3
   refine oN 1 [(22, .v (vOffice (Office.mk t21.Case t21.Start l32) (y24.1, y24.2.1, y24.2.2.1, y24.2.2.2.1, y24.2.2.2.2.1, y31)))] [21, 6, 5, 2, 1] ?_
   obtain ⟨t45, h46, h47⟩ := bS h44
   refine k0 (fun γ w hs => c_impl_OfficeOk (b0 := (y24.1, y24.2.1, y24.2.2.1, y24.2.2.2.1, y24.2.2.2.2.1, y31)) h46 (hs.view 2 rfl) (hs.view 3 rfl) (hs.view 4 rfl) (hs.view 5 rfl) (hs.view 6 rfl) (hs.view 0 rfl)) ?_
   refine oN 2 [(25, vb (!t45))] [6, 5, 2, 1] ?_
   refine oe ?_
   obtain rfl := sI h47
   exact mt () [1, 2, 5, 6, 25] [2, 2, 2, 2, 2, 0] 3
 refine nt (cC h37 (fun h54 => ?_) (fun h55 => ?_))
 · refine qs (qr (oN 1 [(26, .v (vOffice x0 b0))] [2] ?_))
   obtain ⟨t56, h57, h58⟩ := bS h54
   refine k1 (fun γ w hs => c_impl_copyOffice (b0 := b0) h57 (hv0_0.kept hs.kept) (hv0_1.kept hs.kept) (hv0_2.kept hs.kept) (hv0_3.kept hs.kept) (hv0_4.kept hs.kept) (hv0_5.kept hs.kept)) (fun y59 => ?_)
   refine oB 3 [(4, vb false), (3, vi 0)] [2] [(41, (eOffice x0 b0)), (41, (eOffice t56 y59)), (41, (eOffice (Office.mk t21.Case t21.Start l32) (y24.1, y24.2.1, y24.2.2.1, y24.2.2.2.1, y24.2.2.2.2.1, y31)))] ?_
   refine oe (nt (qe (nr (rt [vOffice t56 y59, .int .i64 0, .bool false] (fun γ w hs => ?_)))))
   rw [← sI h58]
   exact ⟨(y59.1, y59.2.1, y59.2.2.1, y59.2.2.2.1, y59.2.2.2.2.1, y59.2.2.2.2.2), rfl, hs.kept.toBelow, (hs.takeR (is := [0, 0, 0, 0, 0, 0]) rfl).fresh⟩
 refine qk (nt (qs (qr (oB 5 [(4, vb true), (3, vi (imax 0 t25))] [2] [(41, (eOffice x0 b0)), (41, (eOffice (Office.mk t21.Case t21.Start l32) (y24.1, y24.2.1, y24.2.2.1, y24.2.2.2.1, y24.2.2.2.2.1, y31))), (41, (eOffice (Office.mk t21.Case t21.Start l32) (y24.1, y24.2.1, y24.2.2.1, y24.2.2.2.1, y24.2.2.2.2.1, y31)))] ?_))))
 refine oe (nt (qe (rt [vOffice (Office.mk t21.Case t21.Start l32) (y24.1, y24.2.1, y24.2.2.1, y24.2.2.2.1, y24.2.2.2.2.1, y31), .int .i64 (imax 0 t25), .bool true] (fun γ w hs => ?_))))
 rw [← sI h55]
 exact ⟨(y24.1, y24.2.1, y24.2.2.1, y24.2.2.2.1, y24.2.2.2.2.1, y31), rfl, hs.kept.toBelow, (hs.takeR (is := [0, 0, 0, 0, 0, 0]) rfl).fresh⟩

theorem c_impl_DoAct {W : World} {x0 : Office} {b0 : AC × AC × AC × AC × AC × AC} {x1 : Act} {r : Office × Int} (h : impl_DoAct x0 x1 = some r) (hv0_0 : SlView W x0.Case.Book.Rules b0.1.1 b0.1.2) (hv0_1 : SlView W x0.Case.Store.Facts b0.2.1.1 b0.2.1.2) (hv0_2 : SlView W x0.Case.Series.Points b0.2.2.1.1 b0.2.2.1.2) (hv0_3 : SlView W x0.Case.Member.Spells b0.2.2.2.1.1 b0.2.2.2.1.2) (hv0_4 : SlView W x0.Case.Member.Events b0.2.2.2.2.1.1 b0.2.2.2.2.1.2) (hv0_5 : SlView W x0.Paid b0.2.2.2.2.2.1 b0.2.2.2.2.2.2) :
    Gives Tryz.prog 24 #[vOffice x0 b0, vAct x1] W (fun y : AC × AC × AC × AC × AC × AC => .tuple #[vOffice r.1 y, .int .i64 r.2]) (fun y => [SlRes 76 r.1.Case.Book.Rules y.1.1 y.1.2, SlRes 47 r.1.Case.Store.Facts y.2.1.1 y.2.1.2, SlRes 52 r.1.Case.Series.Points y.2.2.1.1 y.2.2.1.2, SlRes 156 r.1.Case.Member.Spells y.2.2.2.1.1 y.2.2.2.1.2, SlRes 158 r.1.Case.Member.Events y.2.2.2.2.1.1 y.2.2.2.2.1.2, SlRes 3 r.1.Paid y.2.2.2.2.2.1 y.2.2.2.2.2.2]) := by
 unfold impl_DoAct at h
 refine en Tryz.func24 Tryz.ntmps24 ?_
 refine qs (qr (oB 4 [(4, .p 2 0), (3, .p 1 0), (2, .p 0 0)] [] [(41, (eOffice x0 b0)), (66, (eAct x1)), (41, [.slice none 0 0, .slice none 0 0, .slice none 0 0, .int .i64 0, .int .i64 0, .slice none 0 0, .slice none 0 0, .int .i64 0, .slice none 0 0])] ?_))
 refine oe (nt (qs (qr (oN 1 [(12, .v (vOffice x0 b0))] [4, 3, 2] ?_))))
 obtain ⟨t21, h22, h23⟩ := bS h
 refine k1 (fun γ w hs => c_impl_copyOffice (b0 := b0) h22 (hv0_0.kept hs.kept) (hv0_1.kept hs.kept) (hv0_2.kept hs.kept) (hv0_3.kept hs.kept) (hv0_4.kept hs.kept) (hv0_5.kept hs.kept)) (fun y24 => ?_)
 refine oB 2 [(6, .p 3 0)] [4, 3, 2] [(41, (eOffice x0 b0)), (66, (eAct x1)), (41, [.slice none 0 0, .slice none 0 0, .slice none 0 0, .int .i64 0, .int .i64 0, .slice none 0 0, .slice none 0 0, .int .i64 0, .slice none 0 0]), (41, (eOffice t21 y24))] ?_
 refine oe (nt (qs (qs ?_)))
 obtain ⟨p25, hE26, h27⟩ := bS h23
 refine JC_cut (τ := Unit) (fun _ => [(2, .p 0 0), (3, .p 1 0), (4, .p 2 0), (6, .p 3 0), (21, vb p25)]) (fun _ => [(41, (eOffice x0 b0)), (66, (eAct x1)), (41, [.slice none 0 0, .slice none 0 0, .slice none 0 0, .int .i64 0, .int .i64 0, .slice none 0 0, .slice none 0 0, .int .i64 0, .slice none 0 0]), (41, (eOffice t21 y24))]) (fun _ => [SlRes 76 t21.Case.Book.Rules y24.1.1 y24.1.2, SlRes 47 t21.Case.Store.Facts y24.2.1.1 y24.2.1.2, SlRes 52 t21.Case.Series.Points y24.2.2.1.1 y24.2.2.1.2, SlRes 156 t21.Case.Member.Spells y24.2.2.2.1.1 y24.2.2.2.1.2, SlRes 158 t21.Case.Member.Events y24.2.2.2.2.1.1 y24.2.2.2.2.1.2, SlRes 3 t21.Paid y24.2.2.2.2.2.1 y24.2.2.2.2.2.2]) ?_ (fun _ => ?_)
 · refine qr (oN 1 [(14, .v (vOffice x0 b0))] [6, 4, 3, 2] ?_)
   obtain ⟨t28, h29, h30⟩ := bS hE26
   refine k0 (fun γ w hs => c_impl_OfficeOk (b0 := b0) h29 (hv0_0.kept hs.kept) (hv0_1.kept hs.kept) (hv0_2.kept hs.kept) (hv0_3.kept hs.kept) (hv0_4.kept hs.kept) (hv0_5.kept hs.kept)) ?_
   refine oN 2 [(17, vb (!t28))] [6, 4, 3, 2] ?_
   refine oS 17 h30 (fun h33 => ?_) (fun h34 => ?_)
   · refine oN 4 [(21, vb true)] [6, 4, 3, 2] ?_
     refine oe ?_
     obtain rfl := sI h33
     exact mt () [2, 3, 4, 6, 21] [0, 0, 0, 0, 0, 0] 4
   refine oN 1 [(18, .v (vAct x1))] [17, 6, 4, 3, 2] ?_
   obtain ⟨t35, h36, h37⟩ := bS h34
   refine k0 (fun γ w hs => c_impl_ActOk h36) ?_
   refine oN 2 [(21, vb (!t35))] [6, 4, 3, 2] ?_
   refine oe ?_
   obtain rfl := sI h37
   exact mt () [2, 3, 4, 6, 21] [0, 0, 0, 0, 0, 0] 4
 refine nt (cC h27 (fun h40 => ?_) (fun h41 => ?_))
 · refine qs (qr (oB 3 [(5, vi (-1))] [4] [(41, (eOffice x0 b0)), (66, (eAct x1)), (41, (eOffice t21 y24)), (41, (eOffice t21 y24))] ?_))
   refine oe (nt (qe (nr (rt [vOffice t21 y24, .int .i64 (-1)] (fun γ w hs => ?_)))))
   rw [← sI h40]
   exact ⟨(y24.1, y24.2.1, y24.2.2.1, y24.2.2.2.1, y24.2.2.2.2.1, y24.2.2.2.2.2), rfl, hs.kept.toBelow, (hs.takeR (is := [0, 0, 0, 0, 0, 0]) rfl).fresh⟩
 refine qk (nt (qs (qr (oN 1 [] [2, 3, 4, 6] ?_))))
 refine oe (nt (qs (qs (qr (oN 2 [(24, vi x1.Kind)] [2, 3, 4, 6] ?_)))))
 refine oe (nt (qb (qs (qr (oN 2 [(42, vb (x1.Kind == 1))] [24, 2, 3, 4, 6] ?_)))))
 refine oe (nt ?_)
 obtain ⟨k77, hk78, h83⟩ := jS h41
 refine JC_cutP (τ := (Bool × (List Rule) × (List Fact) × (List Point) × Int × Int × (List Spell) × (List Event) × Int × (List Int)) × (AC × AC × AC × AC × AC × AC)) (fun y => k77 y.1 = some r) (fun y76 => [(4, .p 2 0), (6, .p 3 0), (7, vb y76.1.1)]) (fun y76 => [(41, (eOffice x0 b0)), (66, (eAct x1)), (41, [.slice none 0 0, .slice none 0 0, .slice none 0 0, .int .i64 0, .int .i64 0, .slice none 0 0, .slice none 0 0, .int .i64 0, .slice none 0 0]), (41, (eOffice (Office.mk (Case.mk (Book.mk y76.1.2.1) (Store.mk y76.1.2.2.1) (Series.mk y76.1.2.2.2.1) (Member.mk y76.1.2.2.2.2.1 y76.1.2.2.2.2.2.1 y76.1.2.2.2.2.2.2.1 y76.1.2.2.2.2.2.2.2.1)) y76.1.2.2.2.2.2.2.2.2.1 y76.1.2.2.2.2.2.2.2.2.2) y76.2))]) (fun y76 => [SlRes 76 y76.1.2.1 y76.2.1.1 y76.2.1.2, SlRes 47 y76.1.2.2.1 y76.2.2.1.1 y76.2.2.1.2, SlRes 52 y76.1.2.2.2.1 y76.2.2.2.1.1 y76.2.2.2.1.2, SlRes 156 y76.1.2.2.2.2.2.2.1 y76.2.2.2.2.1.1 y76.2.2.2.2.1.2, SlRes 158 y76.1.2.2.2.2.2.2.2.1 y76.2.2.2.2.2.1.1 y76.2.2.2.2.2.1.2, SlRes 3 y76.1.2.2.2.2.2.2.2.2.2 y76.2.2.2.2.2.2.1 y76.2.2.2.2.2.2.2]) ?_ (fun y76 h79p => ?_)
 · refine cC h83 (fun h85 => ?_) (fun h86 => ?_)
   · refine qr (oN 3 [(47, .v (vFact x1.Fact)), (45, .v (vOffice x0 b0))] [4, 6] ?_)
     obtain ⟨t87, h88, h89⟩ := bS h85
     refine k1 (fun γ w hs => c_impl_LearnFact (b0 := b0) h88 (hv0_0.kept hs.kept) (hv0_1.kept hs.kept) (hv0_2.kept hs.kept) (hv0_3.kept hs.kept) (hv0_4.kept hs.kept) (hv0_5.kept hs.kept)) (fun y90 => ?_)
     refine oB 5 [(7, vb t87.2)] [4, 6] [(41, (eOffice x0 b0)), (66, (eAct x1)), (41, [.slice none 0 0, .slice none 0 0, .slice none 0 0, .int .i64 0, .int .i64 0, .slice none 0 0, .slice none 0 0, .int .i64 0, .slice none 0 0]), (41, (eOffice t87.1 y90))] ?_
     exact oe (mp ((t87.2, t87.1.Case.Book.Rules, t87.1.Case.Store.Facts, t87.1.Case.Series.Points, t87.1.Case.Member.Birth, t87.1.Case.Member.Joined, t87.1.Case.Member.Spells, t87.1.Case.Member.Events, t87.1.Start, t87.1.Paid), ((y90.1.1, y90.1.2), (y90.2.1.1, y90.2.1.2), (y90.2.2.1.1, y90.2.2.1.2), (y90.2.2.2.1.1, y90.2.2.2.1.2), (y90.2.2.2.2.1.1, y90.2.2.2.2.1.2), (y90.2.2.2.2.2.1, y90.2.2.2.2.2.2))) h89 [4, 6, 7] [0, 0, 0, 0, 0, 0] 4)
   refine qs (qr (oN 2 [(51, vb (x1.Kind == 2))] [2, 3, 4, 6] ?_))
   refine oe (nt (cC h86 (fun h92 => ?_) (fun h93 => ?_)))
   · refine qr (oN 3 [(56, .v (vPoint x1.Point)), (54, .v (vOffice x0 b0))] [4, 6] ?_)
     obtain ⟨t94, h95, h96⟩ := bS h92
     refine k1 (fun γ w hs => c_impl_LearnPoint (b0 := b0) h95 (hv0_0.kept hs.kept) (hv0_1.kept hs.kept) (hv0_2.kept hs.kept) (hv0_3.kept hs.kept) (hv0_4.kept hs.kept) (hv0_5.kept hs.kept)) (fun y97 => ?_)
     refine oB 5 [(7, vb t94.2)] [4, 6] [(41, (eOffice x0 b0)), (66, (eAct x1)), (41, [.slice none 0 0, .slice none 0 0, .slice none 0 0, .int .i64 0, .int .i64 0, .slice none 0 0, .slice none 0 0, .int .i64 0, .slice none 0 0]), (41, (eOffice t94.1 y97))] ?_
     exact oe (mp ((t94.2, t94.1.Case.Book.Rules, t94.1.Case.Store.Facts, t94.1.Case.Series.Points, t94.1.Case.Member.Birth, t94.1.Case.Member.Joined, t94.1.Case.Member.Spells, t94.1.Case.Member.Events, t94.1.Start, t94.1.Paid), ((y97.1.1, y97.1.2), (y97.2.1.1, y97.2.1.2), (y97.2.2.1.1, y97.2.2.1.2), (y97.2.2.2.1.1, y97.2.2.2.1.2), (y97.2.2.2.2.1.1, y97.2.2.2.2.1.2), (y97.2.2.2.2.2.1, y97.2.2.2.2.2.2))) h96 [4, 6, 7] [0, 0, 0, 0, 0, 0] 4)
   refine qs (qr (oN 1 [(8, vi 0)] [3, 4, 6] ?_))
   refine oe (nt (qs (qs (qr (oN 3 [(27, vi 0), (26, vi x1.N)] [8, 4, 6] ?_)))))
   refine oe (nt ?_)
   obtain ⟨r101, hL102, h103⟩ := bS h93
   obtain ⟨k104, hk105, h103⟩ := brkS h103
   refine JC_cutP (τ := (Int × (List Rule) × (List Fact) × (List Point) × Int × Int × (List Spell) × (List Event) × Int × (List Int)) × (AC × AC × AC × AC × AC × AC)) (fun y => k104 y.1 = some r) (fun y109 => [(8, vi y109.1.1), (4, .p 2 0), (6, .p 3 0)]) (fun y109 => [(41, (eOffice x0 b0)), (66, (eAct x1)), (41, [.slice none 0 0, .slice none 0 0, .slice none 0 0, .int .i64 0, .int .i64 0, .slice none 0 0, .slice none 0 0, .int .i64 0, .slice none 0 0]), (41, (eOffice (Office.mk (Case.mk (Book.mk y109.1.2.1) (Store.mk y109.1.2.2.1) (Series.mk y109.1.2.2.2.1) (Member.mk y109.1.2.2.2.2.1 y109.1.2.2.2.2.2.1 y109.1.2.2.2.2.2.2.1 y109.1.2.2.2.2.2.2.2.1)) y109.1.2.2.2.2.2.2.2.2.1 y109.1.2.2.2.2.2.2.2.2.2) y109.2))]) (fun y109 => [SlRes 76 y109.1.2.1 y109.2.1.1 y109.2.1.2, SlRes 47 y109.1.2.2.1 y109.2.2.1.1 y109.2.2.1.2, SlRes 52 y109.1.2.2.2.1 y109.2.2.2.1.1 y109.2.2.2.1.2, SlRes 156 y109.1.2.2.2.2.2.2.1 y109.2.2.2.2.1.1 y109.2.2.2.2.1.2, SlRes 158 y109.1.2.2.2.2.2.2.2.1 y109.2.2.2.2.2.1.1 y109.2.2.2.2.2.1.2, SlRes 3 y109.1.2.2.2.2.2.2.2.2.2 y109.2.2.2.2.2.2.1 y109.2.2.2.2.2.2.2]) ?_ (fun y109 h110p => ?_)
   · refine qb (lp (AC × AC × AC × AC × AC × AC) hL102 (fun s98 y99 => [(27, vi s98.1), (26, vi x1.N), (8, vi s98.2.1), (4, .p 2 0), (6, .p 3 0)]) (fun s98 y99 => [(41, (eOffice x0 b0)), (66, (eAct x1)), (41, [.slice none 0 0, .slice none 0 0, .slice none 0 0, .int .i64 0, .int .i64 0, .slice none 0 0, .slice none 0 0, .int .i64 0, .slice none 0 0]), (41, (eOffice (Office.mk (Case.mk (Book.mk s98.2.2.1) (Store.mk s98.2.2.2.1) (Series.mk s98.2.2.2.2.1) (Member.mk s98.2.2.2.2.2.1 s98.2.2.2.2.2.2.1 s98.2.2.2.2.2.2.2.1 s98.2.2.2.2.2.2.2.2.1)) s98.2.2.2.2.2.2.2.2.2.1 s98.2.2.2.2.2.2.2.2.2.2) y99))]) (fun s98 y99 => [SlRes 76 s98.2.2.1 y99.1.1 y99.1.2, SlRes 47 s98.2.2.2.1 y99.2.1.1 y99.2.1.2, SlRes 52 s98.2.2.2.2.1 y99.2.2.1.1 y99.2.2.1.2, SlRes 156 s98.2.2.2.2.2.2.2.1 y99.2.2.2.1.1 y99.2.2.2.1.2, SlRes 158 s98.2.2.2.2.2.2.2.2.1 y99.2.2.2.2.1.1 y99.2.2.2.2.1.2, SlRes 3 s98.2.2.2.2.2.2.2.2.2.2 y99.2.2.2.2.2.1 y99.2.2.2.2.2.2]) ((y24.1.1, y24.1.2), (y24.2.1.1, y24.2.1.2), (y24.2.2.1.1, y24.2.2.1.2), (y24.2.2.2.1.1, y24.2.2.2.1.2), (y24.2.2.2.2.1.1, y24.2.2.2.2.1.2), (y24.2.2.2.2.2.1, y24.2.2.2.2.2.2)) [27, 26, 8, 4, 6] [0, 0, 0, 0, 0, 0] 4 (fun s98 y99 t100 h106 hd107 => ?_))
     refine qs (qr (oN 1 [(28, vb (decide (s98.1 < x1.N)))] [27, 26, 8, 4, 6] ?_))
     refine oe (nt (qs (cC h106 (fun h112 => ?_) (fun h113 => ?_))))
     · refine qk (nt (qs (qb (qs (qr (oN 1 [(30, .v (vOffice (Office.mk (Case.mk (Book.mk s98.2.2.1) (Store.mk s98.2.2.2.1) (Series.mk s98.2.2.2.2.1) (Member.mk s98.2.2.2.2.2.1 s98.2.2.2.2.2.2.1 s98.2.2.2.2.2.2.2.1 s98.2.2.2.2.2.2.2.2.1)) s98.2.2.2.2.2.2.2.2.2.1 s98.2.2.2.2.2.2.2.2.2.2) y99))] [27, 26, 8, 4, 6] ?_))))))
       obtain ⟨t114, h115, h116⟩ := bS h112
       refine k1 (fun γ w hs => c_impl_PayMonth (b0 := y99) h115 (hs.view 0 rfl) (hs.view 1 rfl) (hs.view 2 rfl) (hs.view 3 rfl) (hs.view 4 rfl) (hs.view 5 rfl)) (fun y117 => ?_)
       refine oB 8 [(10, vi t114.2.1), (9, .p 4 0)] [27, 26, 8, 4, 6] [(41, (eOffice x0 b0)), (66, (eAct x1)), (41, [.slice none 0 0, .slice none 0 0, .slice none 0 0, .int .i64 0, .int .i64 0, .slice none 0 0, .slice none 0 0, .int .i64 0, .slice none 0 0]), (41, (eOffice (Office.mk (Case.mk (Book.mk s98.2.2.1) (Store.mk s98.2.2.2.1) (Series.mk s98.2.2.2.2.1) (Member.mk s98.2.2.2.2.2.1 s98.2.2.2.2.2.2.1 s98.2.2.2.2.2.2.2.1 s98.2.2.2.2.2.2.2.2.1)) s98.2.2.2.2.2.2.2.2.2.1 s98.2.2.2.2.2.2.2.2.2.2) y99)), (41, (eOffice t114.1 y117))] ?_
       refine oe (nt (qs (qr (oB 2 [] [10, 27, 26, 8, 4, 6] [(41, (eOffice x0 b0)), (66, (eAct x1)), (41, [.slice none 0 0, .slice none 0 0, .slice none 0 0, .int .i64 0, .int .i64 0, .slice none 0 0, .slice none 0 0, .int .i64 0, .slice none 0 0]), (41, (eOffice t114.1 y117)), (41, (eOffice t114.1 y117))] ?_))))
       refine oe (nt (qr (oN 4 [(8, vi (w64 (s98.2.1 + t114.2.1)))] [27, 26, 4, 6] ?_)))
       refine oe (bn (nt (qr (oN 2 [(27, vi (w64 (s98.1 + 1)))] [8, 26, 4, 6] ?_))))
       exact oe (ct h116 ((y117.1.1, y117.1.2), (y117.2.1.1, y117.2.1.2), (y117.2.2.1.1, y117.2.2.1.2), (y117.2.2.2.1.1, y117.2.2.2.1.2), (y117.2.2.2.2.1.1, y117.2.2.2.2.1.2), (y117.2.2.2.2.2.1, y117.2.2.2.2.2.2)) [27, 26, 8, 4, 6] [0, 0, 0, 0, 0, 0] 4)
     refine qx (nx (nx (bh ?_)))
     have h118 := leafB hd107 h113 h103
     exact mp ((s98.2.1, s98.2.2.1, s98.2.2.2.1, s98.2.2.2.2.1, s98.2.2.2.2.2.1, s98.2.2.2.2.2.2.1, s98.2.2.2.2.2.2.2.1, s98.2.2.2.2.2.2.2.2.1, s98.2.2.2.2.2.2.2.2.2.1, s98.2.2.2.2.2.2.2.2.2.2), ((y99.1.1, y99.1.2), (y99.2.1.1, y99.2.1.2), (y99.2.2.1.1, y99.2.2.1.2), (y99.2.2.2.1.1, y99.2.2.2.1.2), (y99.2.2.2.2.1.1, y99.2.2.2.2.1.2), (y99.2.2.2.2.2.1, y99.2.2.2.2.2.2))) h118 [8, 4, 6] [0, 0, 0, 0, 0, 0] 4
   have h110 := (congrFun hk105 _).symm.trans h110p
   refine nt (qs (qr (oB 4 [(5, vi y109.1.1)] [4] [(41, (eOffice x0 b0)), (66, (eAct x1)), (41, (eOffice (Office.mk (Case.mk (Book.mk y109.1.2.1) (Store.mk y109.1.2.2.1) (Series.mk y109.1.2.2.2.1) (Member.mk y109.1.2.2.2.2.1 y109.1.2.2.2.2.2.1 y109.1.2.2.2.2.2.2.1 y109.1.2.2.2.2.2.2.2.1)) y109.1.2.2.2.2.2.2.2.2.1 y109.1.2.2.2.2.2.2.2.2.2) y109.2)), (41, (eOffice (Office.mk (Case.mk (Book.mk y109.1.2.1) (Store.mk y109.1.2.2.1) (Series.mk y109.1.2.2.2.1) (Member.mk y109.1.2.2.2.2.1 y109.1.2.2.2.2.2.1 y109.1.2.2.2.2.2.2.1 y109.1.2.2.2.2.2.2.2.1)) y109.1.2.2.2.2.2.2.2.2.1 y109.1.2.2.2.2.2.2.2.2.2) y109.2))] ?_)))
   refine oe (nt (qe (nr (br (nr (rt [vOffice (Office.mk (Case.mk (Book.mk y109.1.2.1) (Store.mk y109.1.2.2.1) (Series.mk y109.1.2.2.2.1) (Member.mk y109.1.2.2.2.2.1 y109.1.2.2.2.2.2.1 y109.1.2.2.2.2.2.2.1 y109.1.2.2.2.2.2.2.2.1)) y109.1.2.2.2.2.2.2.2.2.1 y109.1.2.2.2.2.2.2.2.2.2) y109.2, .int .i64 y109.1.1] (fun γ w hs => ?_)))))))
   rw [← sI h110]
   exact ⟨(y109.2.1, y109.2.2.1, y109.2.2.2.1, y109.2.2.2.2.1, y109.2.2.2.2.2.1, y109.2.2.2.2.2.2), rfl, hs.kept.toBelow, (hs.takeR (is := [0, 0, 0, 0, 0, 0]) rfl).fresh⟩
 have h79 := (congrFun hk78 _).symm.trans h79p
 refine bn (nt (qs (qs (qr (oN 1 [(60, vb y76.1.1)] [4, 6] ?_)))))
 refine oe (nt (cC h79 (fun h81 => ?_) (fun h82 => ?_)))
 · refine qs (qr (oB 3 [(5, vi 1)] [4] [(41, (eOffice x0 b0)), (66, (eAct x1)), (41, (eOffice (Office.mk (Case.mk (Book.mk y76.1.2.1) (Store.mk y76.1.2.2.1) (Series.mk y76.1.2.2.2.1) (Member.mk y76.1.2.2.2.2.1 y76.1.2.2.2.2.2.1 y76.1.2.2.2.2.2.2.1 y76.1.2.2.2.2.2.2.2.1)) y76.1.2.2.2.2.2.2.2.2.1 y76.1.2.2.2.2.2.2.2.2.2) y76.2)), (41, (eOffice (Office.mk (Case.mk (Book.mk y76.1.2.1) (Store.mk y76.1.2.2.1) (Series.mk y76.1.2.2.2.1) (Member.mk y76.1.2.2.2.2.1 y76.1.2.2.2.2.2.1 y76.1.2.2.2.2.2.2.1 y76.1.2.2.2.2.2.2.2.1)) y76.1.2.2.2.2.2.2.2.2.1 y76.1.2.2.2.2.2.2.2.2.2) y76.2))] ?_))
   refine oe (nt (qe (nr (rt [vOffice (Office.mk (Case.mk (Book.mk y76.1.2.1) (Store.mk y76.1.2.2.1) (Series.mk y76.1.2.2.2.1) (Member.mk y76.1.2.2.2.2.1 y76.1.2.2.2.2.2.1 y76.1.2.2.2.2.2.2.1 y76.1.2.2.2.2.2.2.2.1)) y76.1.2.2.2.2.2.2.2.2.1 y76.1.2.2.2.2.2.2.2.2.2) y76.2, .int .i64 1] (fun γ w hs => ?_)))))
   rw [← sI h81]
   exact ⟨(y76.2.1, y76.2.2.1, y76.2.2.2.1, y76.2.2.2.2.1, y76.2.2.2.2.2.1, y76.2.2.2.2.2.2), rfl, hs.kept.toBelow, (hs.takeR (is := [0, 0, 0, 0, 0, 0]) rfl).fresh⟩
 refine qk (nt (qs (qr (oB 3 [(5, vi 0)] [4] [(41, (eOffice x0 b0)), (66, (eAct x1)), (41, (eOffice (Office.mk (Case.mk (Book.mk y76.1.2.1) (Store.mk y76.1.2.2.1) (Series.mk y76.1.2.2.2.1) (Member.mk y76.1.2.2.2.2.1 y76.1.2.2.2.2.2.1 y76.1.2.2.2.2.2.2.1 y76.1.2.2.2.2.2.2.2.1)) y76.1.2.2.2.2.2.2.2.2.1 y76.1.2.2.2.2.2.2.2.2.2) y76.2)), (41, (eOffice (Office.mk (Case.mk (Book.mk y76.1.2.1) (Store.mk y76.1.2.2.1) (Series.mk y76.1.2.2.2.1) (Member.mk y76.1.2.2.2.2.1 y76.1.2.2.2.2.2.1 y76.1.2.2.2.2.2.2.1 y76.1.2.2.2.2.2.2.2.1)) y76.1.2.2.2.2.2.2.2.2.1 y76.1.2.2.2.2.2.2.2.2.2) y76.2))] ?_))))
 refine oe (nt (qe (rt [vOffice (Office.mk (Case.mk (Book.mk y76.1.2.1) (Store.mk y76.1.2.2.1) (Series.mk y76.1.2.2.2.1) (Member.mk y76.1.2.2.2.2.1 y76.1.2.2.2.2.2.1 y76.1.2.2.2.2.2.2.1 y76.1.2.2.2.2.2.2.2.1)) y76.1.2.2.2.2.2.2.2.2.1 y76.1.2.2.2.2.2.2.2.2.2) y76.2, .int .i64 0] (fun γ w hs => ?_))))
 rw [← sI h82]
 exact ⟨(y76.2.1, y76.2.2.1, y76.2.2.2.1, y76.2.2.2.2.1, y76.2.2.2.2.2.1, y76.2.2.2.2.2.2), rfl, hs.kept.toBelow, (hs.takeR (is := [0, 0, 0, 0, 0, 0]) rfl).fresh⟩

theorem c_impl_RunActs {W : World} {x0 : Case} {b0 : AC × AC × AC × AC × AC} {x1 : Int} {x2 : List Act} {a2_0 : Option Addr} {c2_0 : Nat} {r : Office × (List Int)} (h : impl_RunActs x0 x1 x2 = some r) (hv0_0 : SlView W x0.Book.Rules b0.1.1 b0.1.2) (hv0_1 : SlView W x0.Store.Facts b0.2.1.1 b0.2.1.2) (hv0_2 : SlView W x0.Series.Points b0.2.2.1.1 b0.2.2.1.2) (hv0_3 : SlView W x0.Member.Spells b0.2.2.2.1.1 b0.2.2.2.1.2) (hv0_4 : SlView W x0.Member.Events b0.2.2.2.2.1 b0.2.2.2.2.2) (hv2_0 : SlView W x2 a2_0 c2_0) :
    Gives Tryz.prog 21 #[vCase x0 b0, .int .i64 x1, .slice a2_0 x2.length c2_0] W (fun y : (AC × AC × AC × AC × AC × AC) × AC => .tuple #[vOffice r.1 y.1, .slice y.2.1 r.2.length y.2.2]) (fun y => [SlRes 76 r.1.Case.Book.Rules y.1.1.1 y.1.1.2, SlRes 47 r.1.Case.Store.Facts y.1.2.1.1 y.1.2.1.2, SlRes 52 r.1.Case.Series.Points y.1.2.2.1.1 y.1.2.2.1.2, SlRes 156 r.1.Case.Member.Spells y.1.2.2.2.1.1 y.1.2.2.2.1.2, SlRes 158 r.1.Case.Member.Events y.1.2.2.2.2.1.1 y.1.2.2.2.2.1.2, SlRes 3 r.1.Paid y.1.2.2.2.2.2.1 y.1.2.2.2.2.2.2, SlRes 3 r.2 y.2.1 y.2.2]) := by
 unfold impl_RunActs at h
 refine en Tryz.func21 Tryz.ntmps21 ?_
 refine qs (qr (oB 3 [(6, .p 1 0), (3, .p 0 0)] [1, 2] [(38, (eCase x0 b0)), (41, [.slice none 0 0, .slice none 0 0, .slice none 0 0, .int .i64 0, .int .i64 0, .slice none 0 0, .slice none 0 0, .int .i64 0, .slice none 0 0])] ?_))
 refine oe (nt (qs (qr (oN 2 [(17, vi x1), (16, .v (vCase x0 b0))] [6, 2] ?_))))
 obtain ⟨t21, h22, h23⟩ := bS h
 refine k1 (fun γ w hs => c_impl_OfficeNew (b0 := b0) h22 (hv0_0.kept hs.kept) (hv0_1.kept hs.kept) (hv0_2.kept hs.kept) (hv0_3.kept hs.kept) (hv0_4.kept hs.kept)) (fun y24 => ?_)
 refine oB 6 [(9, vb t21.2), (8, .p 2 0)] [6, 2] [(38, (eCase x0 b0)), (41, [.slice none 0 0, .slice none 0 0, .slice none 0 0, .int .i64 0, .int .i64 0, .slice none 0 0, .slice none 0 0, .int .i64 0, .slice none 0 0]), (41, (eOffice t21.1 y24))] ?_
 refine oe (nt (qs (qs ?_)))
 obtain ⟨p25, hE26, h27⟩ := bS h23
 refine JC_cut (τ := Unit) (fun _ => [(2, .v (.slice a2_0 x2.length c2_0)), (6, .p 1 0), (8, .p 2 0), (27, vb p25)]) (fun _ => [(38, (eCase x0 b0)), (41, [.slice none 0 0, .slice none 0 0, .slice none 0 0, .int .i64 0, .int .i64 0, .slice none 0 0, .slice none 0 0, .int .i64 0, .slice none 0 0]), (41, (eOffice t21.1 y24))]) (fun _ => [SlRes 76 t21.1.Case.Book.Rules y24.1.1 y24.1.2, SlRes 47 t21.1.Case.Store.Facts y24.2.1.1 y24.2.1.2, SlRes 52 t21.1.Case.Series.Points y24.2.2.1.1 y24.2.2.1.2, SlRes 156 t21.1.Case.Member.Spells y24.2.2.2.1.1 y24.2.2.2.1.2, SlRes 158 t21.1.Case.Member.Events y24.2.2.2.2.1.1 y24.2.2.2.2.1.2, SlRes 3 t21.1.Paid y24.2.2.2.2.2.1 y24.2.2.2.2.2.2]) ?_ (fun _ => ?_)
 · refine qr (oN 3 [(23, vb (!t21.2))] [8, 6, 2] ?_)
   refine oS 23 hE26 (fun h29 => ?_) (fun h30 => ?_)
   · refine oN 4 [(27, vb true)] [8, 6, 2] ?_
     refine oe ?_
     obtain rfl := sI h29
     exact mt () [2, 6, 8, 27] [0, 0, 0, 0, 0, 0] 3
   refine oN 4 [(27, vb (decide ((x2.length : Int) > 60)))] [8, 6, 2] ?_
   refine oe ?_
   obtain rfl := sI h30
   exact mt () [2, 6, 8, 27] [0, 0, 0, 0, 0, 0] 3
 refine nt (cC h27 (fun h32 => ?_) (fun h33 => ?_))
 · refine qs (qr (oN 3 [(7, .v (.slice none 0 0))] [6] ?_))
   refine oe (nt (qe (nr (JE_addnil 76 (List.nil (α := Rule)) rfl ?_))))
   refine JE_addnil 47 (List.nil (α := Fact)) rfl ?_
   refine JE_addnil 52 (List.nil (α := Point)) rfl ?_
   refine JE_addnil 156 (List.nil (α := Spell)) rfl ?_
   refine JE_addnil 158 (List.nil (α := Event)) rfl ?_
   refine JE_addnil 3 (List.nil (α := Int)) rfl ?_
   refine JE_addnil 3 (List.nil (α := Int)) rfl ?_
   refine rt [.agg #[.slice none 0 0, .slice none 0 0, .slice none 0 0, .int .i64 0, .int .i64 0, .slice none 0 0, .slice none 0 0, .int .i64 0, .slice none 0 0], .slice none 0 0] (fun γ w hs => ?_)
   rw [← sI h32]
   exact ⟨(((none, 0), (none, 0), (none, 0), (none, 0), (none, 0), (none, 0)), (none, 0)), rfl, hs.kept.toBelow, (hs.takeR (is := [6, 5, 4, 3, 2, 1, 0]) rfl).fresh⟩
 refine qk (nt (qs (qr (ob [] [SlRes 76 t21.1.Case.Book.Rules y24.1.1 y24.1.2, SlRes 47 t21.1.Case.Store.Facts y24.2.1.1 y24.2.1.2, SlRes 52 t21.1.Case.Series.Points y24.2.2.1.1 y24.2.2.1.2, SlRes 156 t21.1.Case.Member.Spells y24.2.2.2.1.1 y24.2.2.2.1.2, SlRes 158 t21.1.Case.Member.Events y24.2.2.2.2.1.1 y24.2.2.2.2.1.2, SlRes 3 t21.1.Paid y24.2.2.2.2.2.1 y24.2.2.2.2.2.2] 3 0 [] ([] : List Int) (own_flat (by kernel_rfl)) (fun y34 => ?_)))))
 refine oN 1 [(10, .v (.slice y34.1 ([] : List Int).length y34.2))] [2, 6, 8] ?_
 refine oe (nt (qs (qs (qr (oN 3 [(32, vi 0), (31, vi (x2.length : Int)), (30, .v (.slice a2_0 x2.length c2_0))] [10, 6, 8] ?_)))))
 refine oe (nt ?_)
 obtain ⟨r39, hL40, h41⟩ := bS h33
 obtain ⟨k42, hk43, h41⟩ := brkS h41
 refine JC_cutP (τ := ((List Int) × Int × Int × Int × Int × Int × (List Rule) × (List Fact) × (List Point) × Int × Int × (List Spell) × (List Event) × Int × (List Int)) × (AC × AC × AC × AC × AC × AC × AC)) (fun y => k42 y.1 = some r) (fun y47 => [(10, .v (.slice y47.2.1.1 y47.1.1.length y47.2.1.2)), (6, .p 1 0), (8, .p 2 0)]) (fun y47 => [(38, (eCase (Case.mk x0.Book x0.Store x0.Series (Member.mk y47.1.2.1 y47.1.2.2.1 x0.Member.Spells x0.Member.Events)) b0)), (41, [.slice none 0 0, .slice none 0 0, .slice none 0 0, .int .i64 y47.1.2.2.2.1, .int .i64 y47.1.2.2.2.2.1, .slice none 0 0, .slice none 0 0, .int .i64 y47.1.2.2.2.2.2.1, .slice none 0 0]), (41, (eOffice (Office.mk (Case.mk (Book.mk y47.1.2.2.2.2.2.2.1) (Store.mk y47.1.2.2.2.2.2.2.2.1) (Series.mk y47.1.2.2.2.2.2.2.2.2.1) (Member.mk y47.1.2.2.2.2.2.2.2.2.2.1 y47.1.2.2.2.2.2.2.2.2.2.2.1 y47.1.2.2.2.2.2.2.2.2.2.2.2.1 y47.1.2.2.2.2.2.2.2.2.2.2.2.2.1)) y47.1.2.2.2.2.2.2.2.2.2.2.2.2.2.1 y47.1.2.2.2.2.2.2.2.2.2.2.2.2.2.2) y47.2.2))]) (fun y47 => [SlRes 3 y47.1.1 y47.2.1.1 y47.2.1.2, SlRes 76 y47.1.2.2.2.2.2.2.1 y47.2.2.1.1 y47.2.2.1.2, SlRes 47 y47.1.2.2.2.2.2.2.2.1 y47.2.2.2.1.1 y47.2.2.2.1.2, SlRes 52 y47.1.2.2.2.2.2.2.2.2.1 y47.2.2.2.2.1.1 y47.2.2.2.2.1.2, SlRes 156 y47.1.2.2.2.2.2.2.2.2.2.2.2.1 y47.2.2.2.2.2.1.1 y47.2.2.2.2.2.1.2, SlRes 158 y47.1.2.2.2.2.2.2.2.2.2.2.2.2.1 y47.2.2.2.2.2.2.1.1 y47.2.2.2.2.2.2.1.2, SlRes 3 y47.1.2.2.2.2.2.2.2.2.2.2.2.2.2.2 y47.2.2.2.2.2.2.2.1 y47.2.2.2.2.2.2.2.2]) ?_ (fun y47 h48p => ?_)
 · refine qb (lp (AC × AC × AC × AC × AC × AC × AC) hL40 (fun s36 y37 => [(32, vi s36.1), (31, vi (x2.length : Int)), (30, .v (.slice a2_0 x2.length c2_0)), (10, .v (.slice y37.1.1 s36.2.1.length y37.1.2)), (6, .p 1 0), (8, .p 2 0)]) (fun s36 y37 => [(38, (eCase x0 b0)), (41, [.slice none 0 0, .slice none 0 0, .slice none 0 0, .int .i64 0, .int .i64 0, .slice none 0 0, .slice none 0 0, .int .i64 0, .slice none 0 0]), (41, (eOffice (Office.mk (Case.mk (Book.mk s36.2.2.1) (Store.mk s36.2.2.2.1) (Series.mk s36.2.2.2.2.1) (Member.mk s36.2.2.2.2.2.1 s36.2.2.2.2.2.2.1 s36.2.2.2.2.2.2.2.1 s36.2.2.2.2.2.2.2.2.1)) s36.2.2.2.2.2.2.2.2.2.1 s36.2.2.2.2.2.2.2.2.2.2) y37.2))]) (fun s36 y37 => [SlRes 3 s36.2.1 y37.1.1 y37.1.2, SlRes 76 s36.2.2.1 y37.2.1.1 y37.2.1.2, SlRes 47 s36.2.2.2.1 y37.2.2.1.1 y37.2.2.1.2, SlRes 52 s36.2.2.2.2.1 y37.2.2.2.1.1 y37.2.2.2.1.2, SlRes 156 s36.2.2.2.2.2.2.2.1 y37.2.2.2.2.1.1 y37.2.2.2.2.1.2, SlRes 158 s36.2.2.2.2.2.2.2.2.1 y37.2.2.2.2.2.1.1 y37.2.2.2.2.2.1.2, SlRes 3 s36.2.2.2.2.2.2.2.2.2.2 y37.2.2.2.2.2.2.1 y37.2.2.2.2.2.2.2]) ((y34.1, y34.2), (y24.1.1, y24.1.2), (y24.2.1.1, y24.2.1.2), (y24.2.2.1.1, y24.2.2.1.2), (y24.2.2.2.1.1, y24.2.2.2.1.2), (y24.2.2.2.2.1.1, y24.2.2.2.2.1.2), (y24.2.2.2.2.2.1, y24.2.2.2.2.2.2)) [32, 31, 30, 10, 6, 8] [0, 0, 0, 0, 0, 0, 0] 3 (fun s36 y37 t38 h44 hd45 => ?_))
   refine qs (qr (oN 1 [(33, vb (decide (s36.1 < (x2.length : Int))))] [32, 31, 30, 10, 6, 8] ?_))
   refine oe (nt (qs (cC h44 (fun h50 => ?_) (fun h51 => ?_))))
   · refine qk (nt (qs (qb (qs (qr ?_)))))
     obtain ⟨x52, hx53, h54⟩ := bS h50
     refine oi 10 (fun γ w hs => (hv2_0.kept hs.kept)) hx53 ?_
     refine ol 66 0 (vAct x52) (fun γ w hs => (hv2_0.kept hs.kept).flatq hx53) ?_
     refine oB 2 [(12, .p 3 0)] [32, 31, 30, 10, 6, 8] [(38, (eCase x0 b0)), (41, [.slice none 0 0, .slice none 0 0, .slice none 0 0, .int .i64 0, .int .i64 0, .slice none 0 0, .slice none 0 0, .int .i64 0, .slice none 0 0]), (41, (eOffice (Office.mk (Case.mk (Book.mk s36.2.2.1) (Store.mk s36.2.2.2.1) (Series.mk s36.2.2.2.2.1) (Member.mk s36.2.2.2.2.2.1 s36.2.2.2.2.2.2.1 s36.2.2.2.2.2.2.2.1 s36.2.2.2.2.2.2.2.2.1)) s36.2.2.2.2.2.2.2.2.2.1 s36.2.2.2.2.2.2.2.2.2.2) y37.2)), (66, (eAct x52))] ?_
     refine oe (nt (qs (qr (oN 2 [(38, .v (vAct x52)), (37, .v (vOffice (Office.mk (Case.mk (Book.mk s36.2.2.1) (Store.mk s36.2.2.2.1) (Series.mk s36.2.2.2.2.1) (Member.mk s36.2.2.2.2.2.1 s36.2.2.2.2.2.2.1 s36.2.2.2.2.2.2.2.1 s36.2.2.2.2.2.2.2.2.1)) s36.2.2.2.2.2.2.2.2.2.1 s36.2.2.2.2.2.2.2.2.2.2) y37.2))] [32, 31, 30, 10, 6, 8] ?_))))
     obtain ⟨t55, h56, h57⟩ := bS h54
     refine k1 (fun γ w hs => c_impl_DoAct (b0 := y37.2) h56 (hs.view 1 rfl) (hs.view 2 rfl) (hs.view 3 rfl) (hs.view 4 rfl) (hs.view 5 rfl) (hs.view 6 rfl)) (fun y58 => ?_)
     refine oB 6 [(14, vi t55.2), (13, .p 4 0)] [32, 31, 30, 10, 6, 8] [(38, (eCase x0 b0)), (41, [.slice none 0 0, .slice none 0 0, .slice none 0 0, .int .i64 0, .int .i64 0, .slice none 0 0, .slice none 0 0, .int .i64 0, .slice none 0 0]), (41, (eOffice (Office.mk (Case.mk (Book.mk s36.2.2.1) (Store.mk s36.2.2.2.1) (Series.mk s36.2.2.2.2.1) (Member.mk s36.2.2.2.2.2.1 s36.2.2.2.2.2.2.1 s36.2.2.2.2.2.2.2.1 s36.2.2.2.2.2.2.2.2.1)) s36.2.2.2.2.2.2.2.2.2.1 s36.2.2.2.2.2.2.2.2.2.2) y37.2)), (66, (eAct x52)), (41, (eOffice t55.1 y58))] ?_
     refine oe (nt (qs (qr (oB 2 [] [14, 32, 31, 30, 10, 6, 8] [(38, (eCase x0 b0)), (41, [.slice none 0 0, .slice none 0 0, .slice none 0 0, .int .i64 0, .int .i64 0, .slice none 0 0, .slice none 0 0, .int .i64 0, .slice none 0 0]), (41, (eOffice t55.1 y58)), (66, (eAct x52)), (41, (eOffice t55.1 y58))] ?_))))
     refine oe (nt (qr (oN 2 [(44, vi t55.2), (43, .v (.slice y37.1.1 s36.2.1.length y37.1.2))] [32, 31, 30, 6, 8] ?_)))
     refine ob [] [SlRes 76 t55.1.Case.Book.Rules y58.1.1 y58.1.2, SlRes 47 t55.1.Case.Store.Facts y58.2.1.1 y58.2.1.2, SlRes 52 t55.1.Case.Series.Points y58.2.2.1.1 y58.2.2.1.2, SlRes 156 t55.1.Case.Member.Spells y58.2.2.2.1.1 y58.2.2.2.1.2, SlRes 158 t55.1.Case.Member.Events y58.2.2.2.2.1.1 y58.2.2.2.2.1.2, SlRes 3 t55.1.Paid y58.2.2.2.2.2.1 y58.2.2.2.2.2.2, SlRes 3 s36.2.1 y37.1.1 y37.1.2, SlRes 76 s36.2.2.1 y37.2.1.1 y37.2.1.2, SlRes 47 s36.2.2.2.1 y37.2.2.1.1 y37.2.2.1.2, SlRes 52 s36.2.2.2.2.1 y37.2.2.2.1.1 y37.2.2.2.1.2, SlRes 156 s36.2.2.2.2.2.2.2.1 y37.2.2.2.2.1.1 y37.2.2.2.2.1.2, SlRes 158 s36.2.2.2.2.2.2.2.2.1 y37.2.2.2.2.2.1.1 y37.2.2.2.2.2.1.2, SlRes 3 s36.2.2.2.2.2.2.2.2.2.2 y37.2.2.2.2.2.2.1 y37.2.2.2.2.2.2.2] 3 1 [.int .i64 t55.2] ([t55.2] : List Int) (own_flat (by kernel_rfl)) (fun y59 => ?_)
     refine JO_res (R' := [SlRes 3 s36.2.1 y37.1.1 y37.1.2, SlRes 3 ([t55.2] : List Int) y59.1 y59.2, SlRes 76 t55.1.Case.Book.Rules y58.1.1 y58.1.2, SlRes 47 t55.1.Case.Store.Facts y58.2.1.1 y58.2.1.2, SlRes 52 t55.1.Case.Series.Points y58.2.2.1.1 y58.2.2.1.2, SlRes 156 t55.1.Case.Member.Spells y58.2.2.2.1.1 y58.2.2.2.1.2, SlRes 158 t55.1.Case.Member.Events y58.2.2.2.2.1.1 y58.2.2.2.2.1.2, SlRes 3 t55.1.Paid y58.2.2.2.2.2.1 y58.2.2.2.2.2.2, SlRes 76 s36.2.2.1 y37.2.1.1 y37.2.1.2, SlRes 47 s36.2.2.2.1 y37.2.2.1.1 y37.2.2.1.2, SlRes 52 s36.2.2.2.2.1 y37.2.2.2.1.1 y37.2.2.2.1.2, SlRes 156 s36.2.2.2.2.2.2.2.1 y37.2.2.2.2.1.1 y37.2.2.2.2.1.2, SlRes 158 s36.2.2.2.2.2.2.2.2.1 y37.2.2.2.2.2.1.1 y37.2.2.2.2.2.1.2, SlRes 3 s36.2.2.2.2.2.2.2.2.2.2 y37.2.2.2.2.2.2.1 y37.2.2.2.2.2.2.2]) [7, 0, 0, 0, 0, 0, 0, 0, 0, 0, 0, 0, 0, 0] (by kernel_rfl) ?_
     obtain ⟨l62, hm63, h64⟩ := bS h57
     refine oa 39 y59.2 Tryz.t3 (.int .i64 0) (fun γ w hs => ⟨y59.2, (hs.view 1 rfl)⟩) hm63 (fun y61 => ?_)
     refine oN 1 [(10, .v (.slice y61.1 l62.length y61.2))] [32, 31, 30, 6, 8] ?_
     refine oe (bn (nt (qr (oN 2 [(32, vi (w64 (s36.1 + 1)))] [10, 31, 30, 6, 8] ?_))))
     exact oe (ct h64 ((y61.1, y61.2), (y58.1.1, y58.1.2), (y58.2.1.1, y58.2.1.2), (y58.2.2.1.1, y58.2.2.1.2), (y58.2.2.2.1.1, y58.2.2.2.1.2), (y58.2.2.2.2.1.1, y58.2.2.2.2.1.2), (y58.2.2.2.2.2.1, y58.2.2.2.2.2.2)) [32, 31, 30, 10, 6, 8] [0, 1, 1, 1, 1, 1, 1] 3)
   refine qx (nx (nx (bh ?_)))
   have h65 := leafB hd45 h51 h41
   exact mp ((s36.2.1, x0.Member.Birth, x0.Member.Joined, 0, 0, 0, s36.2.2.1, s36.2.2.2.1, s36.2.2.2.2.1, s36.2.2.2.2.2.1, s36.2.2.2.2.2.2.1, s36.2.2.2.2.2.2.2.1, s36.2.2.2.2.2.2.2.2.1, s36.2.2.2.2.2.2.2.2.2.1, s36.2.2.2.2.2.2.2.2.2.2), ((y37.1.1, y37.1.2), (y37.2.1.1, y37.2.1.2), (y37.2.2.1.1, y37.2.2.1.2), (y37.2.2.2.1.1, y37.2.2.2.1.2), (y37.2.2.2.2.1.1, y37.2.2.2.2.1.2), (y37.2.2.2.2.2.1.1, y37.2.2.2.2.2.1.2), (y37.2.2.2.2.2.2.1, y37.2.2.2.2.2.2.2))) h65 [10, 6, 8] [0, 0, 0, 0, 0, 0, 0] 3
 have h48 := (congrFun hk43 _).symm.trans h48p
 refine nt (qs (qr (oB 4 [(7, .v (.slice y47.2.1.1 y47.1.1.length y47.2.1.2))] [6] [(38, (eCase (Case.mk x0.Book x0.Store x0.Series (Member.mk y47.1.2.1 y47.1.2.2.1 x0.Member.Spells x0.Member.Events)) b0)), (41, (eOffice (Office.mk (Case.mk (Book.mk y47.1.2.2.2.2.2.2.1) (Store.mk y47.1.2.2.2.2.2.2.2.1) (Series.mk y47.1.2.2.2.2.2.2.2.2.1) (Member.mk y47.1.2.2.2.2.2.2.2.2.2.1 y47.1.2.2.2.2.2.2.2.2.2.2.1 y47.1.2.2.2.2.2.2.2.2.2.2.2.1 y47.1.2.2.2.2.2.2.2.2.2.2.2.2.1)) y47.1.2.2.2.2.2.2.2.2.2.2.2.2.2.1 y47.1.2.2.2.2.2.2.2.2.2.2.2.2.2.2) y47.2.2)), (41, (eOffice (Office.mk (Case.mk (Book.mk y47.1.2.2.2.2.2.2.1) (Store.mk y47.1.2.2.2.2.2.2.2.1) (Series.mk y47.1.2.2.2.2.2.2.2.2.1) (Member.mk y47.1.2.2.2.2.2.2.2.2.2.1 y47.1.2.2.2.2.2.2.2.2.2.2.1 y47.1.2.2.2.2.2.2.2.2.2.2.2.1 y47.1.2.2.2.2.2.2.2.2.2.2.2.2.1)) y47.1.2.2.2.2.2.2.2.2.2.2.2.2.2.1 y47.1.2.2.2.2.2.2.2.2.2.2.2.2.2.2) y47.2.2))] ?_)))
 refine oe (nt (qe (rt [vOffice (Office.mk (Case.mk (Book.mk y47.1.2.2.2.2.2.2.1) (Store.mk y47.1.2.2.2.2.2.2.2.1) (Series.mk y47.1.2.2.2.2.2.2.2.2.1) (Member.mk y47.1.2.2.2.2.2.2.2.2.2.1 y47.1.2.2.2.2.2.2.2.2.2.2.1 y47.1.2.2.2.2.2.2.2.2.2.2.2.1 y47.1.2.2.2.2.2.2.2.2.2.2.2.2.1)) y47.1.2.2.2.2.2.2.2.2.2.2.2.2.2.1 y47.1.2.2.2.2.2.2.2.2.2.2.2.2.2.2) y47.2.2, .slice y47.2.1.1 y47.1.1.length y47.2.1.2] (fun γ w hs => ?_))))
 rw [← sI h48]
 exact ⟨((y47.2.2.1, y47.2.2.2.1, y47.2.2.2.2.1, y47.2.2.2.2.2.1, y47.2.2.2.2.2.2.1, y47.2.2.2.2.2.2.2), y47.2.1), rfl, hs.kept.toBelow, (hs.takeR (is := [1, 1, 1, 1, 1, 1, 0]) rfl).fresh⟩

theorem c_laws_sameInts {W : World} {x0 : List Int} {a0_0 : Option Addr} {c0_0 : Nat} {x1 : List Int} {a1_0 : Option Addr} {c1_0 : Nat} {r : Bool} (h : laws_sameInts x0 x1 = some r) (hv0_0 : SlView W x0 a0_0 c0_0) (hv1_0 : SlView W x1 a1_0 c1_0) :
    Gives0 Tryz.prog 25 #[.slice a0_0 x0.length c0_0, .slice a1_0 x1.length c1_0] W (.bool r) := by
 unfold laws_sameInts at h
 refine en Tryz.func25 Tryz.ntmps25 ?_
 refine qs (qr (oN 1 [] [0, 1] ?_))
 refine oe (nt (qs (qs (qr (oN 5 [(10, vb ((x0.length : Int) != (x1.length : Int)))] [0, 1] ?_)))))
 refine oe (nt (cC h (fun h22 => ?_) (fun h23 => ?_)))
 · refine qs (qr (oN 1 [(4, vb false)] [] ?_))
   refine oe (nt (qe (nr ?_)))
   obtain rfl := sI h22
   exact re [.bool false]
 refine qk (nt (qs (qs (qr (oN 1 [(5, vi 0)] [0, 1] ?_)))))
 refine oe (nt ?_)
 obtain ⟨r27, hL28, h29⟩ := bS h23
 obtain ⟨k30, hk31, h29⟩ := brkS h29
 refine JC_cutP (τ := (Unit) × (Unit)) (fun y => k30 y.1 = some r) (fun y35 => []) (fun y35 => []) (fun y35 => []) ?_ (fun y35 h36p => ?_)
 · refine qb (lp Unit hL28 (fun s24 y25 => [(5, vi s24), (0, .v (.slice a0_0 x0.length c0_0)), (1, .v (.slice a1_0 x1.length c1_0))]) (fun s24 y25 => []) (fun s24 y25 => []) () [5, 0, 1] [] 0 (fun s24 y25 t26 h32 hd33 => ?_))
   refine qs (qs (qr (oN 4 [(14, vb (decide (s24 < (x0.length : Int))))] [5, 0, 1] ?_)))
   refine oe (nt (cC h32 (fun h38 => ?_) (fun h39 => ?_)))
   · refine qk (nt (qs (qb (qs (JC_quiet (by kernel_rfl) (by kernel_rfl) ?_)))))
     refine qN 2 [(18, vi s24), (17, .v (.slice a0_0 x0.length c0_0))] [5, 0, 1] ?_
     obtain ⟨x40, hx41, h42⟩ := bS h38
     refine qi 1 (fun γ w hs => (hv0_0.kept hs.kept)) hx41 ?_
     refine ql 3 0 (.int .i64 x40) (fun γ w hs => (hv0_0.kept hs.kept).flatq hx41) ?_
     refine qN 2 [(22, vi s24), (21, .v (.slice a1_0 x1.length c1_0))] [20, 5, 0, 1] ?_
     obtain ⟨x43, hx44, h45⟩ := bS h42
     refine qi 1 (fun γ w hs => (hv1_0.kept hs.kept)) hx44 ?_
     refine ql 3 0 (.int .i64 x43) (fun γ w hs => (hv1_0.kept hs.kept).flatq hx44) ?_
     refine qN 1 [(25, vb (x40 != x43))] [5, 0, 1] ?_
     refine qz (nt (cC h45 (fun h47 => ?_) (fun h48 => ?_)))
     · refine qs (qr (oN 1 [(4, vb false)] [] ?_))
       refine oe (nt (qe (br (nr (nr ?_)))))
       have h49 := leafR hd33 h47 h29
       refine br (nr (nr ?_))
       obtain rfl := sI h49
       exact re [.bool false]
     refine qk (bn (nt (qr (oN 3 [(5, vi (w64 (s24 + 1)))] [0, 1] ?_))))
     exact oe (ct h48 () [5, 0, 1] [] 0)
   refine qx (nx (nx (bh ?_)))
   have h50 := leafB hd33 h39 h29
   exact mp ((), ()) h50 [] [] 0
 have h36 := (congrFun hk31 _).symm.trans h36p
 refine nt (qs (qr (oN 1 [(4, vb true)] [] ?_)))
 refine oe (nt (qe ?_))
 obtain rfl := sI h36
 exact re [.bool true]

theorem c_spec_l39Rules {W : World} {x0 : Book} {a0_0 : Option Addr} {c0_0 : Nat} {x1 : Book} {a1_0 : Option Addr} {c1_0 : Nat} {r : Bool} (h : spec_l39Rules x0 x1 = some r) (hv0_0 : SlView W x0.Rules a0_0 c0_0) (hv1_0 : SlView W x1.Rules a1_0 c1_0) :
    Gives0 Tryz.prog 62 #[vBook x0 (a0_0, c0_0), vBook x1 (a1_0, c1_0)] W (.bool r) := by
 unfold spec_l39Rules at h
 refine en Tryz.func62 Tryz.ntmps62 ?_
 refine qs (qr (oB 3 [(3, .p 1 0), (2, .p 0 0)] [] [(26, (eBook x0 (a0_0, c0_0))), (26, (eBook x1 (a1_0, c1_0)))] ?_))
 refine oe (nt (qs (qs (qr (oN 7 [(15, vb ((x0.Rules.length : Int) != (x1.Rules.length : Int)))] [3, 2] ?_)))))
 refine oe (nt (cC h (fun h22 => ?_) (fun h23 => ?_)))
 · refine qs (qr (oN 1 [(4, vb false)] [] ?_))
   refine oe (nt (qe (nr ?_)))
   obtain rfl := sI h22
   exact re [.bool false]
 refine qk (nt (qs (qs (qr (oN 1 [(5, vi 0)] [3, 2] ?_)))))
 refine oe (nt ?_)
 obtain ⟨r27, hL28, h29⟩ := bS h23
 obtain ⟨k30, hk31, h29⟩ := brkS h29
 refine JC_cutP (τ := (Unit) × (Unit)) (fun y => k30 y.1 = some r) (fun y35 => []) (fun y35 => [(26, (eBook x0 (a0_0, c0_0))), (26, (eBook x1 (a1_0, c1_0)))]) (fun y35 => []) ?_ (fun y35 h36p => ?_)
 · refine qb (lp Unit hL28 (fun s24 y25 => [(5, vi s24), (3, .p 1 0), (2, .p 0 0)]) (fun s24 y25 => [(26, (eBook x0 (a0_0, c0_0))), (26, (eBook x1 (a1_0, c1_0)))]) (fun s24 y25 => []) () [5, 3, 2] [] 2 (fun s24 y25 t26 h32 hd33 => ?_))
   refine qs (qs (qr (oN 5 [(20, vb (decide (s24 < (x0.Rules.length : Int))))] [5, 3, 2] ?_)))
   refine oe (nt (cC h32 (fun h38 => ?_) (fun h39 => ?_)))
   · refine qk (nt (qs (qb (qs (qr (oN 3 [(25, vi s24), (24, .v (.slice a0_0 x0.Rules.length c0_0))] [5, 3, 2] ?_))))))
     obtain ⟨x40, hx41, h42⟩ := bS h38
     refine oi 7 (fun γ w hs => (hv0_0.kept hs.kept)) hx41 ?_
     obtain ⟨_, ⟨a43, c44, rfl, hv45⟩, hc46⟩ := SlView.at hv0_0 (idx_some hx41).2.2
     refine ol 76 0 (vRule x40 (a43, c44)) (fun γ w hs => ⟨(hv0_0.kept hs.kept).ne (idx_some hx41).2.2, hc46.kept hs.kept⟩) ?_
     refine oB 2 [(6, .p 2 0)] [5, 3, 2] [(26, (eBook x0 (a0_0, c0_0))), (26, (eBook x1 (a1_0, c1_0))), (76, (eRule x40 (a43, c44)))] ?_
     refine oe (nt (qs (qr (oN 3 [(30, vi s24), (29, .v (.slice a1_0 x1.Rules.length c1_0))] [6, 5, 3, 2] ?_))))
     obtain ⟨x47, hx48, h49⟩ := bS h42
     refine oi 7 (fun γ w hs => (hv1_0.kept hs.kept)) hx48 ?_
     obtain ⟨_, ⟨a50, c51, rfl, hv52⟩, hc53⟩ := SlView.at hv1_0 (idx_some hx48).2.2
     refine ol 76 0 (vRule x47 (a50, c51)) (fun γ w hs => ⟨(hv1_0.kept hs.kept).ne (idx_some hx48).2.2, hc53.kept hs.kept⟩) ?_
     refine oB 2 [(7, .p 3 0)] [6, 5, 3, 2] [(26, (eBook x0 (a0_0, c0_0))), (26, (eBook x1 (a1_0, c1_0))), (76, (eRule x40 (a43, c44))), (76, (eRule x47 (a50, c51)))] ?_
     refine oe (nt (qs (qs ?_)))
     obtain ⟨p54, hE55, h56⟩ := bS h49
     refine JC_cut (τ := Unit) (fun _ => [(2, .p 0 0), (3, .p 1 0), (5, vi s24), (6, .p 2 0), (7, .p 3 0), (81, vb p54)]) (fun _ => [(26, (eBook x0 (a0_0, c0_0))), (26, (eBook x1 (a1_0, c1_0))), (76, (eRule x40 (a43, c44))), (76, (eRule x47 (a50, c51)))]) (fun _ => []) ?_ (fun _ => ?_)
     · refine qr (oN 6 [(38, vb (x40.Name != x47.Name))] [7, 6, 5, 3, 2] ?_)
       refine oS 38 hE55 (fun h58 => ?_) (fun h59 => ?_)
       · refine oN 43 [(81, vb true)] [7, 6, 5, 3, 2] ?_
         refine oe ?_
         obtain rfl := sI h58
         exact mt () [2, 3, 5, 6, 7, 81] [] 4
       refine oN 7 [(45, vb (x40.From != x47.From))] [7, 6, 5, 3, 2] ?_
       refine oS 45 h59 (fun h61 => ?_) (fun h62 => ?_)
       · refine oN 36 [(81, vb true)] [7, 6, 5, 3, 2] ?_
         refine oe ?_
         obtain rfl := sI h61
         exact mt () [2, 3, 5, 6, 7, 81] [] 4
       refine oN 7 [(52, vb (x40.To != x47.To))] [7, 6, 5, 3, 2] ?_
       refine oS 52 h62 (fun h64 => ?_) (fun h65 => ?_)
       · refine oN 29 [(81, vb true)] [7, 6, 5, 3, 2] ?_
         refine oe ?_
         obtain rfl := sI h64
         exact mt () [2, 3, 5, 6, 7, 81] [] 4
       refine oN 7 [(59, vb (x40.Joined != x47.Joined))] [7, 6, 5, 3, 2] ?_
       refine oS 59 h65 (fun h67 => ?_) (fun h68 => ?_)
       · refine oN 22 [(81, vb true)] [7, 6, 5, 3, 2] ?_
         refine oe ?_
         obtain rfl := sI h67
         exact mt () [2, 3, 5, 6, 7, 81] [] 4
       refine oN 7 [(66, vb (x40.Rank != x47.Rank))] [7, 6, 5, 3, 2] ?_
       refine oS 66 h68 (fun h70 => ?_) (fun h71 => ?_)
       · refine oN 15 [(81, vb true)] [7, 6, 5, 3, 2] ?_
         refine oe ?_
         obtain rfl := sI h70
         exact mt () [2, 3, 5, 6, 7, 81] [] 4
       refine oN 7 [(73, vb (x40.Mode != x47.Mode))] [7, 6, 5, 3, 2] ?_
       refine oS 73 h71 (fun h73 => ?_) (fun h74 => ?_)
       · refine oN 8 [(81, vb true)] [7, 6, 5, 3, 2] ?_
         refine oe ?_
         obtain rfl := sI h73
         exact mt () [2, 3, 5, 6, 7, 81] [] 4
       refine oN 8 [(81, vb ((x40.Nodes.length : Int) != (x47.Nodes.length : Int)))] [7, 6, 5, 3, 2] ?_
       refine oe ?_
       obtain rfl := sI h74
       exact mt () [2, 3, 5, 6, 7, 81] [] 4
     refine nt (cC h56 (fun h76 => ?_) (fun h77 => ?_))
     · refine qs (qr (oN 1 [(4, vb false)] [] ?_))
       refine oe (nt (qe (nr (br (nr (nr ?_))))))
       have h78 := leafR hd33 h76 h29
       refine br (nr (nr ?_))
       obtain rfl := sI h78
       exact re [.bool false]
     refine qk (nt (qs (qr (oN 1 [(8, vi 0)] [2, 3, 5, 6, 7] ?_))))
     refine oe (nt ?_)
     obtain ⟨r82, hL83, h84⟩ := bS h77
     obtain ⟨k85, hk86, h84⟩ := brkS h84
     refine JC_cutP (τ := (Unit) × (Unit)) (fun y => k85 y.1 = some t26) (fun y90 => [(2, .p 0 0), (3, .p 1 0), (5, vi s24)]) (fun y90 => [(26, (eBook x0 (a0_0, c0_0))), (26, (eBook x1 (a1_0, c1_0))), (76, (eRule x40 (a43, c44))), (76, (eRule x47 (a50, c51)))]) (fun y90 => []) ?_ (fun y90 h91p => ?_)
     · refine qb (lp Unit hL83 (fun s79 y80 => [(8, vi s79), (2, .p 0 0), (3, .p 1 0), (5, vi s24), (6, .p 2 0), (7, .p 3 0)]) (fun s79 y80 => [(26, (eBook x0 (a0_0, c0_0))), (26, (eBook x1 (a1_0, c1_0))), (76, (eRule x40 (a43, c44))), (76, (eRule x47 (a50, c51)))]) (fun s79 y80 => []) () [8, 2, 3, 5, 6, 7] [] 4 (fun s79 y80 t81 h87 hd88 => ?_))
       refine qs (qs (qr (oN 5 [(86, vb (decide (s79 < (x40.Nodes.length : Int))))] [8, 2, 3, 5, 6, 7] ?_)))
       refine oe (nt (cC h87 (fun h93 => ?_) (fun h94 => ?_)))
       · refine qk (nt (qs (qb (qs (JC_quiet (by kernel_rfl) (by kernel_rfl) ?_)))))
         refine qN 3 [(91, vi s79), (90, .v (.slice a43 x40.Nodes.length c44))] [8, 2, 3, 5, 6, 7] ?_
         obtain ⟨x95, hx96, h97⟩ := bS h93
         refine qi 6 (fun γ w hs => (hv45.kept hs.kept)) hx96 ?_
         refine ql 154 0 (vNode x95) (fun γ w hs => (hv45.kept hs.kept).flatq hx96) ?_
         refine qN 3 [(96, vi s79), (95, .v (.slice a50 x47.Nodes.length c51))] [93, 8, 2, 3, 5, 6, 7] ?_
         obtain ⟨x98, hx99, h100⟩ := bS h97
         refine qi 6 (fun γ w hs => (hv52.kept hs.kept)) hx99 ?_
         refine ql 154 0 (vNode x98) (fun γ w hs => (hv52.kept hs.kept).flatq hx99) ?_
         refine qN 1 [(99, vb (!((x95.Kind == x98.Kind) && ((x95.A == x98.A) && ((x95.B == x98.B) && ((x95.C == x98.C) && (((x95.Value.Num == x98.Value.Num) && ((x95.Value.Den == x98.Value.Den) && true)) && true)))))))] [8, 2, 3, 5, 6, 7] ?_
         refine qz (nt (cC h100 (fun h102 => ?_) (fun h103 => ?_)))
         · refine qs (qr (oN 1 [(4, vb false)] [] ?_))
           refine oe (nt (qe (br (nr (nr ?_)))))
           have h104 := leafR hd88 h102 h84
           refine br (nr (br (nr (nr ?_))))
           have h105 := leafR hd33 h104 h29
           refine br (nr (nr ?_))
           obtain rfl := sI h105
           exact re [.bool false]
         refine qk (bn (nt (qr (oN 3 [(8, vi (w64 (s79 + 1)))] [2, 3, 5, 6, 7] ?_))))
         exact oe (ct h103 () [8, 2, 3, 5, 6, 7] [] 4)
       refine qx (nx (nx (bh ?_)))
       have h106 := leafB hd88 h94 h84
       exact mp ((), ()) h106 [2, 3, 5] [] 4
     have h91 := (congrFun hk86 _).symm.trans h91p
     refine bn (nt (qr (oN 3 [(5, vi (w64 (s24 + 1)))] [2, 3] ?_)))
     exact oe (ct h91 () [5, 3, 2] [] 2)
   refine qx (nx (nx (bh ?_)))
   have h107 := leafB hd33 h39 h29
   exact mp ((), ()) h107 [] [] 2
 have h36 := (congrFun hk31 _).symm.trans h36p
 refine nt (qs (qr (oN 1 [(4, vb true)] [] ?_)))
 refine oe (nt (qe ?_))
 obtain rfl := sI h36
 exact re [.bool true]

theorem c_spec_l39Member {W : World} {x0 : Member} {b0 : AC × AC} {x1 : Member} {b1 : AC × AC} {r : Bool} (h : spec_l39Member x0 x1 = some r) (hv0_0 : SlView W x0.Spells b0.1.1 b0.1.2) (hv0_1 : SlView W x0.Events b0.2.1 b0.2.2) (hv1_0 : SlView W x1.Spells b1.1.1 b1.1.2) (hv1_1 : SlView W x1.Events b1.2.1 b1.2.2) :
    Gives0 Tryz.prog 63 #[vMember x0 b0, vMember x1 b1] W (.bool r) := by
 unfold spec_l39Member at h
 refine en Tryz.func63 Tryz.ntmps63 ?_
 refine qs (qr (oB 3 [(3, .p 1 0), (2, .p 0 0)] [] [(36, (eMember x0 b0)), (36, (eMember x1 b1))] ?_))
 refine oe (nt (qs (qs ?_)))
 obtain ⟨p21, hE22, h23⟩ := bS h
 refine JC_cut (τ := Unit) (fun _ => [(2, .p 0 0), (3, .p 1 0), (36, vb p21)]) (fun _ => [(36, (eMember x0 b0)), (36, (eMember x1 b1))]) (fun _ => []) ?_ (fun _ => ?_)
 · refine qr (oN 6 [(12, vb (x0.Birth != x1.Birth))] [3, 2] ?_)
   refine oS 12 hE22 (fun h25 => ?_) (fun h26 => ?_)
   · refine oN 24 [(36, vb true)] [3, 2] ?_
     refine oe ?_
     obtain rfl := sI h25
     exact mt () [2, 3, 36] [] 2
   refine oN 7 [(19, vb (x0.Joined != x1.Joined))] [3, 2] ?_
   refine oS 19 h26 (fun h28 => ?_) (fun h29 => ?_)
   · refine oN 17 [(36, vb true)] [3, 2] ?_
     refine oe ?_
     obtain rfl := sI h28
     exact mt () [2, 3, 36] [] 2
   refine oN 9 [(28, vb ((x0.Spells.length : Int) != (x1.Spells.length : Int)))] [3, 2] ?_
   refine oS 28 h29 (fun h31 => ?_) (fun h32 => ?_)
   · refine oN 8 [(36, vb true)] [3, 2] ?_
     refine oe ?_
     obtain rfl := sI h31
     exact mt () [2, 3, 36] [] 2
   refine oN 8 [(36, vb ((x0.Events.length : Int) != (x1.Events.length : Int)))] [3, 2] ?_
   refine oe ?_
   obtain rfl := sI h32
   exact mt () [2, 3, 36] [] 2
 refine nt (cC h23 (fun h34 => ?_) (fun h35 => ?_))
 · refine qs (qr (oN 1 [(4, vb false)] [] ?_))
   refine oe (nt (qe (nr ?_)))
   obtain rfl := sI h34
   exact re [.bool false]
 refine qk (nt (qs (qs (qr (oN 1 [(5, vi 0)] [2, 3] ?_)))))
 refine oe (nt ?_)
 obtain ⟨r39, hL40, h41⟩ := bS h35
 obtain ⟨k42, hk43, h41⟩ := brkS h41
 refine JC_cutP (τ := (Int × Int × Int × Int) × (Unit)) (fun y => k42 y.1 = some r) (fun y47 => [(2, .p 0 0), (3, .p 1 0)]) (fun y47 => [(36, (eMember (Member.mk y47.1.1 y47.1.2.1 x0.Spells x0.Events) b0)), (36, (eMember (Member.mk y47.1.2.2.1 y47.1.2.2.2 x1.Spells x1.Events) b1))]) (fun y47 => []) ?_ (fun y47 h48p => ?_)
 · refine qb (lp Unit hL40 (fun s36 y37 => [(5, vi s36), (2, .p 0 0), (3, .p 1 0)]) (fun s36 y37 => [(36, (eMember x0 b0)), (36, (eMember x1 b1))]) (fun s36 y37 => []) () [5, 2, 3] [] 2 (fun s36 y37 t38 h44 hd45 => ?_))
   refine qs (qs (qr (oN 5 [(41, vb (decide (s36 < (x0.Spells.length : Int))))] [5, 2, 3] ?_)))
   refine oe (nt (cC h44 (fun h77 => ?_) (fun h78 => ?_)))
   · refine qk (nt (qs (qb (qs (JC_quiet (by kernel_rfl) (by kernel_rfl) ?_)))))
     refine qN 3 [(46, vi s36), (45, .v (.slice b0.1.1 x0.Spells.length b0.1.2))] [5, 2, 3] ?_
     obtain ⟨x79, hx80, h81⟩ := bS h77
     refine qi 4 (fun γ w hs => (hv0_0.kept hs.kept)) hx80 ?_
     refine ql 156 0 (vSpell x79) (fun γ w hs => (hv0_0.kept hs.kept).flatq hx80) ?_
     refine qN 3 [(51, vi s36), (50, .v (.slice b1.1.1 x1.Spells.length b1.1.2))] [48, 5, 2, 3] ?_
     obtain ⟨x82, hx83, h84⟩ := bS h81
     refine qi 4 (fun γ w hs => (hv1_0.kept hs.kept)) hx83 ?_
     refine ql 156 0 (vSpell x82) (fun γ w hs => (hv1_0.kept hs.kept).flatq hx83) ?_
     refine qN 1 [(54, vb (!((x79.From == x82.From) && ((x79.To == x82.To) && ((x79.Percent == x82.Percent) && ((x79.Leave == x82.Leave) && true))))))] [5, 2, 3] ?_
     refine qz (nt (cC h84 (fun h86 => ?_) (fun h87 => ?_)))
     · refine qs (qr (oN 1 [(4, vb false)] [] ?_))
       refine oe (nt (qe (br (nr (nr ?_)))))
       have h88 := leafR hd45 h86 h41
       refine br (nr (nr ?_))
       obtain rfl := sI h88
       exact re [.bool false]
     refine qk (bn (nt (qr (oN 3 [(5, vi (w64 (s36 + 1)))] [2, 3] ?_))))
     exact oe (ct h87 () [5, 2, 3] [] 2)
   refine qx (nx (nx (bh ?_)))
   have h89 := leafB hd45 h78 h41
   exact mp ((x0.Birth, x0.Joined, x1.Birth, x1.Joined), ()) h89 [2, 3] [] 2
 have h48 := (congrFun hk43 _).symm.trans h48p
 refine nt (qs (qs (qr (oN 1 [(6, vi 0)] [2, 3] ?_))))
 refine oe (nt ?_)
 obtain ⟨r52, hL53, h54⟩ := bS h48
 obtain ⟨k55, hk56, h54⟩ := brkS h54
 refine JC_cutP (τ := (Int × Int × Int × Int) × (Unit)) (fun y => k55 y.1 = some r) (fun y60 => []) (fun y60 => [(36, (eMember (Member.mk y60.1.1 y60.1.2.1 x0.Spells x0.Events) b0)), (36, (eMember (Member.mk y60.1.2.2.1 y60.1.2.2.2 x1.Spells x1.Events) b1))]) (fun y60 => []) ?_ (fun y60 h61p => ?_)
 · refine qb (lp Unit hL53 (fun s49 y50 => [(6, vi s49), (2, .p 0 0), (3, .p 1 0)]) (fun s49 y50 => [(36, (eMember (Member.mk y47.1.1 y47.1.2.1 x0.Spells x0.Events) b0)), (36, (eMember (Member.mk y47.1.2.2.1 y47.1.2.2.2 x1.Spells x1.Events) b1))]) (fun s49 y50 => []) () [6, 2, 3] [] 2 (fun s49 y50 t51 h57 hd58 => ?_))
   refine qs (qs (qr (oN 5 [(59, vb (decide (s49 < (x0.Events.length : Int))))] [6, 2, 3] ?_)))
   refine oe (nt (cC h57 (fun h63 => ?_) (fun h64 => ?_)))
   · refine qk (nt (qs (qb (qs (JC_quiet (by kernel_rfl) (by kernel_rfl) ?_)))))
     refine qN 3 [(64, vi s49), (63, .v (.slice b0.2.1 x0.Events.length b0.2.2))] [6, 2, 3] ?_
     obtain ⟨x65, hx66, h67⟩ := bS h63
     refine qi 2 (fun γ w hs => (hv0_1.kept hs.kept)) hx66 ?_
     refine ql 158 0 (vEvent x65) (fun γ w hs => (hv0_1.kept hs.kept).flatq hx66) ?_
     refine qN 3 [(69, vi s49), (68, .v (.slice b1.2.1 x1.Events.length b1.2.2))] [66, 6, 2, 3] ?_
     obtain ⟨x68, hx69, h70⟩ := bS h67
     refine qi 2 (fun γ w hs => (hv1_1.kept hs.kept)) hx69 ?_
     refine ql 158 0 (vEvent x68) (fun γ w hs => (hv1_1.kept hs.kept).flatq hx69) ?_
     refine qN 1 [(72, vb (!((x65.Kind == x68.Kind) && ((x65.Month == x68.Month) && true))))] [6, 2, 3] ?_
     refine qz (nt (cC h70 (fun h72 => ?_) (fun h73 => ?_)))
     · refine qs (qr (oN 1 [(4, vb false)] [] ?_))
       refine oe (nt (qe (br (nr (nr ?_)))))
       have h74 := leafR hd58 h72 h54
       refine br (nr (nr ?_))
       obtain rfl := sI h74
       exact re [.bool false]
     refine qk (bn (nt (qr (oN 3 [(6, vi (w64 (s49 + 1)))] [2, 3] ?_))))
     exact oe (ct h73 () [6, 2, 3] [] 2)
   refine qx (nx (nx (bh ?_)))
   have h75 := leafB hd58 h64 h54
   exact mp ((y47.1.1, y47.1.2.1, y47.1.2.2.1, y47.1.2.2.2), ()) h75 [] [] 2
 have h61 := (congrFun hk56 _).symm.trans h61p
 refine nt (qs (qr (oN 1 [(4, vb true)] [] ?_)))
 refine oe (nt (qe ?_))
 obtain rfl := sI h61
 exact re [.bool true]

theorem c_spec_l39Times {W : World} {x0 : Case} {b0 : AC × AC × AC × AC × AC} {x1 : Case} {b1 : AC × AC × AC × AC × AC} {r : Bool} (h : spec_l39Times x0 x1 = some r) (hv0_0 : SlView W x0.Book.Rules b0.1.1 b0.1.2) (hv0_1 : SlView W x0.Store.Facts b0.2.1.1 b0.2.1.2) (hv0_2 : SlView W x0.Series.Points b0.2.2.1.1 b0.2.2.1.2) (hv0_3 : SlView W x0.Member.Spells b0.2.2.2.1.1 b0.2.2.2.1.2) (hv0_4 : SlView W x0.Member.Events b0.2.2.2.2.1 b0.2.2.2.2.2) (hv1_0 : SlView W x1.Book.Rules b1.1.1 b1.1.2) (hv1_1 : SlView W x1.Store.Facts b1.2.1.1 b1.2.1.2) (hv1_2 : SlView W x1.Series.Points b1.2.2.1.1 b1.2.2.1.2) (hv1_3 : SlView W x1.Member.Spells b1.2.2.2.1.1 b1.2.2.2.1.2) (hv1_4 : SlView W x1.Member.Events b1.2.2.2.2.1 b1.2.2.2.2.2) :
    Gives0 Tryz.prog 64 #[vCase x0 b0, vCase x1 b1] W (.bool r) := by
 unfold spec_l39Times at h
 refine en Tryz.func64 Tryz.ntmps64 ?_
 refine qs (qr (oB 3 [(3, .p 1 0), (2, .p 0 0)] [] [(38, (eCase x0 b0)), (38, (eCase x1 b1))] ?_))
 refine oe (nt (qs (qs ?_)))
 obtain ⟨p21, hE22, h23⟩ := bS h
 refine JC_cut (τ := Unit) (fun _ => [(2, .p 0 0), (3, .p 1 0), (26, vb p21)]) (fun _ => [(38, (eCase x0 b0)), (38, (eCase x1 b1))]) (fun _ => []) ?_ (fun _ => ?_)
 · refine qr (oN 10 [(16, vb ((x0.Store.Facts.length : Int) != (x1.Store.Facts.length : Int)))] [3, 2] ?_)
   refine oS 16 hE22 (fun h25 => ?_) (fun h26 => ?_)
   · refine oN 10 [(26, vb true)] [3, 2] ?_
     refine oe ?_
     obtain rfl := sI h25
     exact mt () [2, 3, 26] [] 2
   refine oN 10 [(26, vb ((x0.Series.Points.length : Int) != (x1.Series.Points.length : Int)))] [3, 2] ?_
   refine oe ?_
   obtain rfl := sI h26
   exact mt () [2, 3, 26] [] 2
 refine nt (cC h23 (fun h28 => ?_) (fun h29 => ?_))
 · refine qs (qr (oN 1 [(4, vb false)] [] ?_))
   refine oe (nt (qe (nr ?_)))
   obtain rfl := sI h28
   exact re [.bool false]
 refine qk (nt (qs (qs (qr (oN 1 [(5, vi 0)] [2, 3] ?_)))))
 refine oe (nt ?_)
 obtain ⟨r33, hL34, h35⟩ := bS h29
 obtain ⟨k36, hk37, h35⟩ := brkS h35
 refine JC_cutP (τ := (Int × Int × Int × Int) × (Unit)) (fun y => k36 y.1 = some r) (fun y41 => [(2, .p 0 0), (3, .p 1 0)]) (fun y41 => [(38, (eCase (Case.mk x0.Book x0.Store x0.Series (Member.mk y41.1.1 y41.1.2.1 x0.Member.Spells x0.Member.Events)) b0)), (38, (eCase (Case.mk x1.Book x1.Store x1.Series (Member.mk y41.1.2.2.1 y41.1.2.2.2 x1.Member.Spells x1.Member.Events)) b1))]) (fun y41 => []) ?_ (fun y41 h42p => ?_)
 · refine qb (lp Unit hL34 (fun s30 y31 => [(5, vi s30), (2, .p 0 0), (3, .p 1 0)]) (fun s30 y31 => [(38, (eCase x0 b0)), (38, (eCase x1 b1))]) (fun s30 y31 => []) () [5, 2, 3] [] 2 (fun s30 y31 t32 h38 hd39 => ?_))
   refine qs (qs (qr (oN 6 [(32, vb (decide (s30 < (x0.Store.Facts.length : Int))))] [5, 2, 3] ?_)))
   refine oe (nt (cC h38 (fun h71 => ?_) (fun h72 => ?_)))
   · refine qk (nt (qs (qb (qs (JC_quiet (by kernel_rfl) (by kernel_rfl) ?_)))))
     refine qN 4 [(38, vi s30), (37, .v (.slice b0.2.1.1 x0.Store.Facts.length b0.2.1.2))] [5, 2, 3] ?_
     obtain ⟨x73, hx74, h75⟩ := bS h71
     refine qi 5 (fun γ w hs => (hv0_1.kept hs.kept)) hx74 ?_
     refine ql 47 0 (vFact x73) (fun γ w hs => (hv0_1.kept hs.kept).flatq hx74) ?_
     refine qN 4 [(44, vi s30), (43, .v (.slice b1.2.1.1 x1.Store.Facts.length b1.2.1.2))] [40, 5, 2, 3] ?_
     obtain ⟨x76, hx77, h78⟩ := bS h75
     refine qi 5 (fun γ w hs => (hv1_1.kept hs.kept)) hx77 ?_
     refine ql 47 0 (vFact x76) (fun γ w hs => (hv1_1.kept hs.kept).flatq hx77) ?_
     refine qN 1 [(47, vb (!((x73.Key == x76.Key) && ((x73.From == x76.From) && ((x73.To == x76.To) && ((x73.Known == x76.Known) && ((x73.Value == x76.Value) && true)))))))] [5, 2, 3] ?_
     refine qz (nt (cC h78 (fun h80 => ?_) (fun h81 => ?_)))
     · refine qs (qr (oN 1 [(4, vb false)] [] ?_))
       refine oe (nt (qe (br (nr (nr ?_)))))
       have h82 := leafR hd39 h80 h35
       refine br (nr (nr ?_))
       obtain rfl := sI h82
       exact re [.bool false]
     refine qk (bn (nt (qr (oN 3 [(5, vi (w64 (s30 + 1)))] [2, 3] ?_))))
     exact oe (ct h81 () [5, 2, 3] [] 2)
   refine qx (nx (nx (bh ?_)))
   have h83 := leafB hd39 h72 h35
   exact mp ((x0.Member.Birth, x0.Member.Joined, x1.Member.Birth, x1.Member.Joined), ()) h83 [2, 3] [] 2
 have h42 := (congrFun hk37 _).symm.trans h42p
 refine nt (qs (qs (qr (oN 1 [(6, vi 0)] [2, 3] ?_))))
 refine oe (nt ?_)
 obtain ⟨r46, hL47, h48⟩ := bS h42
 obtain ⟨k49, hk50, h48⟩ := brkS h48
 refine JC_cutP (τ := (Int × Int × Int × Int) × (Unit)) (fun y => k49 y.1 = some r) (fun y54 => []) (fun y54 => [(38, (eCase (Case.mk x0.Book x0.Store x0.Series (Member.mk y54.1.1 y54.1.2.1 x0.Member.Spells x0.Member.Events)) b0)), (38, (eCase (Case.mk x1.Book x1.Store x1.Series (Member.mk y54.1.2.2.1 y54.1.2.2.2 x1.Member.Spells x1.Member.Events)) b1))]) (fun y54 => []) ?_ (fun y54 h55p => ?_)
 · refine qb (lp Unit hL47 (fun s43 y44 => [(6, vi s43), (2, .p 0 0), (3, .p 1 0)]) (fun s43 y44 => [(38, (eCase (Case.mk x0.Book x0.Store x0.Series (Member.mk y41.1.1 y41.1.2.1 x0.Member.Spells x0.Member.Events)) b0)), (38, (eCase (Case.mk x1.Book x1.Store x1.Series (Member.mk y41.1.2.2.1 y41.1.2.2.2 x1.Member.Spells x1.Member.Events)) b1))]) (fun s43 y44 => []) () [6, 2, 3] [] 2 (fun s43 y44 t45 h51 hd52 => ?_))
   refine qs (qs (qr (oN 6 [(53, vb (decide (s43 < (x0.Series.Points.length : Int))))] [6, 2, 3] ?_)))
   refine oe (nt (cC h51 (fun h57 => ?_) (fun h58 => ?_)))
   · refine qk (nt (qs (qb (qs (JC_quiet (by kernel_rfl) (by kernel_rfl) ?_)))))
     refine qN 4 [(59, vi s43), (58, .v (.slice b0.2.2.1.1 x0.Series.Points.length b0.2.2.1.2))] [6, 2, 3] ?_
     obtain ⟨x59, hx60, h61⟩ := bS h57
     refine qi 3 (fun γ w hs => (hv0_2.kept hs.kept)) hx60 ?_
     refine ql 52 0 (vPoint x59) (fun γ w hs => (hv0_2.kept hs.kept).flatq hx60) ?_
     refine qN 4 [(65, vi s43), (64, .v (.slice b1.2.2.1.1 x1.Series.Points.length b1.2.2.1.2))] [61, 6, 2, 3] ?_
     obtain ⟨x62, hx63, h64⟩ := bS h61
     refine qi 3 (fun γ w hs => (hv1_2.kept hs.kept)) hx63 ?_
     refine ql 52 0 (vPoint x62) (fun γ w hs => (hv1_2.kept hs.kept).flatq hx63) ?_
     refine qN 1 [(68, vb (!((x59.Month == x62.Month) && ((x59.Known == x62.Known) && ((x59.Value == x62.Value) && true)))))] [6, 2, 3] ?_
     refine qz (nt (cC h64 (fun h66 => ?_) (fun h67 => ?_)))
     · refine qs (qr (oN 1 [(4, vb false)] [] ?_))
       refine oe (nt (qe (br (nr (nr ?_)))))
       have h68 := leafR hd52 h66 h48
       refine br (nr (nr ?_))
       obtain rfl := sI h68
       exact re [.bool false]
     refine qk (bn (nt (qr (oN 3 [(6, vi (w64 (s43 + 1)))] [2, 3] ?_))))
     exact oe (ct h67 () [6, 2, 3] [] 2)
   refine qx (nx (nx (bh ?_)))
   have h69 := leafB hd52 h58 h48
   exact mp ((y41.1.1, y41.1.2.1, y41.1.2.2.1, y41.1.2.2.2), ()) h69 [] [] 2
 have h55 := (congrFun hk50 _).symm.trans h55p
 refine nt (qs (qr (oN 1 [(4, vb true)] [] ?_)))
 refine oe (nt (qe ?_))
 obtain rfl := sI h55
 exact re [.bool true]

theorem c_spec_SameOffice {W : World} {x0 : Office} {b0 : AC × AC × AC × AC × AC × AC} {x1 : Office} {b1 : AC × AC × AC × AC × AC × AC} {r : Bool} (h : spec_SameOffice x0 x1 = some r) (hv0_0 : SlView W x0.Case.Book.Rules b0.1.1 b0.1.2) (hv0_1 : SlView W x0.Case.Store.Facts b0.2.1.1 b0.2.1.2) (hv0_2 : SlView W x0.Case.Series.Points b0.2.2.1.1 b0.2.2.1.2) (hv0_3 : SlView W x0.Case.Member.Spells b0.2.2.2.1.1 b0.2.2.2.1.2) (hv0_4 : SlView W x0.Case.Member.Events b0.2.2.2.2.1.1 b0.2.2.2.2.1.2) (hv0_5 : SlView W x0.Paid b0.2.2.2.2.2.1 b0.2.2.2.2.2.2) (hv1_0 : SlView W x1.Case.Book.Rules b1.1.1 b1.1.2) (hv1_1 : SlView W x1.Case.Store.Facts b1.2.1.1 b1.2.1.2) (hv1_2 : SlView W x1.Case.Series.Points b1.2.2.1.1 b1.2.2.1.2) (hv1_3 : SlView W x1.Case.Member.Spells b1.2.2.2.1.1 b1.2.2.2.1.2) (hv1_4 : SlView W x1.Case.Member.Events b1.2.2.2.2.1.1 b1.2.2.2.2.1.2) (hv1_5 : SlView W x1.Paid b1.2.2.2.2.2.1 b1.2.2.2.2.2.2) :
    Gives0 Tryz.prog 26 #[vOffice x0 b0, vOffice x1 b1] W (.bool r) := by
 unfold spec_SameOffice at h
 refine en Tryz.func26 Tryz.ntmps26 ?_
 refine qs (qr (oB 3 [(3, .p 1 0), (2, .p 0 0)] [] [(41, (eOffice x0 b0)), (41, (eOffice x1 b1))] ?_))
 refine oe (nt (qs (qs ?_)))
 obtain ⟨p21, hE22, h23⟩ := bS h
 refine JC_cut (τ := Unit) (fun _ => [(2, .p 0 0), (3, .p 1 0), (47, vb p21)]) (fun _ => [(41, (eOffice x0 b0)), (41, (eOffice x1 b1))]) (fun _ => []) ?_ (fun _ => ?_)
 · refine qr (oN 6 [(11, vb (x0.Start != x1.Start))] [3, 2] ?_)
   refine oS 11 hE22 (fun h25 => ?_) (fun h26 => ?_)
   · refine oN 36 [(47, vb true)] [3, 2] ?_
     refine oe ?_
     obtain rfl := sI h25
     exact mt () [2, 3, 47] [] 2
   refine oN 9 [(20, vb ((x0.Paid.length : Int) != (x1.Paid.length : Int)))] [3, 2] ?_
   refine oS 20 h26 (fun h28 => ?_) (fun h29 => ?_)
   · refine oN 27 [(47, vb true)] [3, 2] ?_
     refine oe ?_
     obtain rfl := sI h28
     exact mt () [2, 3, 47] [] 2
   refine oN 6 [(26, .v (vBook x1.Case.Book b1.1)), (23, .v (vBook x0.Case.Book b0.1))] [20, 3, 2] ?_
   obtain ⟨t30, h31, h32⟩ := bS h29
   refine k0 (fun γ w hs => c_spec_l39Rules h31 (hv0_0.kept hs.kept) (hv1_0.kept hs.kept)) ?_
   refine oN 3 [(30, vb (!t30))] [3, 2] ?_
   refine oS 30 h32 (fun h35 => ?_) (fun h36 => ?_)
   · refine oN 17 [(47, vb true)] [3, 2] ?_
     refine oe ?_
     obtain rfl := sI h35
     exact mt () [2, 3, 47] [] 2
   refine oN 6 [(36, .v (vMember x1.Case.Member (b1.2.2.2.1, b1.2.2.2.2.1))), (33, .v (vMember x0.Case.Member (b0.2.2.2.1, b0.2.2.2.2.1)))] [30, 3, 2] ?_
   obtain ⟨t37, h38, h39⟩ := bS h36
   refine k0 (fun γ w hs => c_spec_l39Member (b0 := (b0.2.2.2.1, b0.2.2.2.2.1)) (b1 := (b1.2.2.2.1, b1.2.2.2.2.1)) h38 (hv0_3.kept hs.kept) (hv0_4.kept hs.kept) (hv1_3.kept hs.kept) (hv1_4.kept hs.kept)) ?_
   refine oN 3 [(40, vb (!t37))] [3, 2] ?_
   refine oS 40 h39 (fun h42 => ?_) (fun h43 => ?_)
   · refine oN 7 [(47, vb true)] [3, 2] ?_
     refine oe ?_
     obtain rfl := sI h42
     exact mt () [2, 3, 47] [] 2
   refine oN 4 [(44, .v (vCase x1.Case (b1.1, b1.2.1, b1.2.2.1, b1.2.2.2.1, b1.2.2.2.2.1))), (42, .v (vCase x0.Case (b0.1, b0.2.1, b0.2.2.1, b0.2.2.2.1, b0.2.2.2.2.1)))] [40, 3, 2] ?_
   obtain ⟨t44, h45, h46⟩ := bS h43
   refine k0 (fun γ w hs => c_spec_l39Times (b0 := (b0.1, b0.2.1, b0.2.2.1, b0.2.2.2.1, b0.2.2.2.2.1)) (b1 := (b1.1, b1.2.1, b1.2.2.1, b1.2.2.2.1, b1.2.2.2.2.1)) h45 (hv0_0.kept hs.kept) (hv0_1.kept hs.kept) (hv0_2.kept hs.kept) (hv0_3.kept hs.kept) (hv0_4.kept hs.kept) (hv1_0.kept hs.kept) (hv1_1.kept hs.kept) (hv1_2.kept hs.kept) (hv1_3.kept hs.kept) (hv1_4.kept hs.kept)) ?_
   refine oN 2 [(47, vb (!t44))] [3, 2] ?_
   refine oe ?_
   obtain rfl := sI h46
   exact mt () [2, 3, 47] [] 2
 refine nt (cC h23 (fun h49 => ?_) (fun h50 => ?_))
 · refine qs (qr (oN 1 [(4, vb false)] [] ?_))
   refine oe (nt (qe (nr ?_)))
   obtain rfl := sI h49
   exact re [.bool false]
 refine qk (nt (qs (qs (qr (oN 1 [(5, vi 0)] [2, 3] ?_)))))
 refine oe (nt ?_)
 obtain ⟨r54, hL55, h56⟩ := bS h50
 obtain ⟨k57, hk58, h56⟩ := brkS h56
 refine JC_cutP (τ := (Int × Int × Int × Int × Int × Int) × (Unit)) (fun y => k57 y.1 = some r) (fun y62 => []) (fun y62 => [(41, (eOffice (Office.mk (Case.mk x0.Case.Book x0.Case.Store x0.Case.Series (Member.mk y62.1.1 y62.1.2.1 x0.Case.Member.Spells x0.Case.Member.Events)) y62.1.2.2.1 x0.Paid) b0)), (41, (eOffice (Office.mk (Case.mk x1.Case.Book x1.Case.Store x1.Case.Series (Member.mk y62.1.2.2.2.1 y62.1.2.2.2.2.1 x1.Case.Member.Spells x1.Case.Member.Events)) y62.1.2.2.2.2.2 x1.Paid) b1))]) (fun y62 => []) ?_ (fun y62 h63p => ?_)
 · refine qb (lp Unit hL55 (fun s51 y52 => [(5, vi s51), (2, .p 0 0), (3, .p 1 0)]) (fun s51 y52 => [(41, (eOffice x0 b0)), (41, (eOffice x1 b1))]) (fun s51 y52 => []) () [5, 2, 3] [] 2 (fun s51 y52 t53 h59 hd60 => ?_))
   refine qs (qs (qr (oN 5 [(52, vb (decide (s51 < (x0.Paid.length : Int))))] [5, 2, 3] ?_)))
   refine oe (nt (cC h59 (fun h65 => ?_) (fun h66 => ?_)))
   · refine qk (nt (qs (qb (qs (JC_quiet (by kernel_rfl) (by kernel_rfl) ?_)))))
     refine qN 3 [(57, vi s51), (56, .v (.slice b0.2.2.2.2.2.1 x0.Paid.length b0.2.2.2.2.2.2))] [5, 2, 3] ?_
     obtain ⟨x67, hx68, h69⟩ := bS h65
     refine qi 1 (fun γ w hs => (hv0_5.kept hs.kept)) hx68 ?_
     refine ql 3 0 (.int .i64 x67) (fun γ w hs => (hv0_5.kept hs.kept).flatq hx68) ?_
     refine qN 3 [(62, vi s51), (61, .v (.slice b1.2.2.2.2.2.1 x1.Paid.length b1.2.2.2.2.2.2))] [59, 5, 2, 3] ?_
     obtain ⟨x70, hx71, h72⟩ := bS h69
     refine qi 1 (fun γ w hs => (hv1_5.kept hs.kept)) hx71 ?_
     refine ql 3 0 (.int .i64 x70) (fun γ w hs => (hv1_5.kept hs.kept).flatq hx71) ?_
     refine qN 1 [(65, vb (x67 != x70))] [5, 2, 3] ?_
     refine qz (nt (cC h72 (fun h74 => ?_) (fun h75 => ?_)))
     · refine qs (qr (oN 1 [(4, vb false)] [] ?_))
       refine oe (nt (qe (br (nr (nr ?_)))))
       have h76 := leafR hd60 h74 h56
       refine br (nr (nr ?_))
       obtain rfl := sI h76
       exact re [.bool false]
     refine qk (bn (nt (qr (oN 3 [(5, vi (w64 (s51 + 1)))] [2, 3] ?_))))
     exact oe (ct h75 () [5, 2, 3] [] 2)
   refine qx (nx (nx (bh ?_)))
   have h77 := leafB hd60 h66 h56
   exact mp ((x0.Case.Member.Birth, x0.Case.Member.Joined, x0.Start, x1.Case.Member.Birth, x1.Case.Member.Joined, x1.Start), ()) h77 [] [] 2
 have h63 := (congrFun hk58 _).symm.trans h63p
 refine nt (qs (qr (oN 1 [(4, vb true)] [] ?_)))
 refine oe (nt (qe ?_))
 obtain rfl := sI h63
 exact re [.bool true]
end Go.Pen
