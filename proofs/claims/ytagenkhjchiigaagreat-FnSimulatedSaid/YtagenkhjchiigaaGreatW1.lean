/-
  Each Go function does what its plain function says: written by a program of ours.
-/
import Derived.Test.YtagenkhjchiigaaGreatF
import Derived.Test.YtagenkhjchiigaaGreatProg
import Derived.Test.YtagenkhjchiigaaGreatPenK
import Derived.Test.YtagenkhjchiigaaGreatPenJ
import Derived.Test.YtagenkhjchiigaaGreatPenP
import Derived.Test.YtagenkhjchiigaaGreatPenQ
import Derived.Test.YtagenkhjchiigaaGreatPenU
namespace Go.Pen
open Go.Proofs Go.RowKit
set_option linter.unusedVariables false
set_option linter.unusedSimpArgs false
set_option maxRecDepth 100000
set_option maxHeartbeats 4000000

theorem c_laws_big {W : World} {x0 : List U8} {a0_0 : Option Addr} {c0_0 : Nat} {r : Bool} (h : laws_big x0 = some r) (hv0_0 : SlView W x0 a0_0 c0_0) :
    Gives0 Tryz.prog 12 #[.slice a0_0 x0.length c0_0] W (.bool r) := by
 unfold laws_big at h
 refine en Tryz.func12 Tryz.ntmps12 ?_
 refine qs (qr (oN 1 [] [0] ?_))
 refine oe (nt (qs (qr (oN 4 [(2, vb (decide ((x0.length : Int) > 1048576)))] [] ?_))))
 refine oe (nt (qe ?_))
 obtain rfl := sI h
 exact re [.bool (decide ((x0.length : Int) > 1048576))]

theorem c_spec_l01New {W : World} {x0 : List U8} {a0_0 : Option Addr} {c0_0 : Nat} {r : Int × Int} (h : spec_l01New x0 = some r) (hv0_0 : SlView W x0 a0_0 c0_0) :
    Gives Tryz.prog 49 #[.slice a0_0 x0.length c0_0] W (fun y : AC => (SV.q y.1 0).den []) (fun y => [CurRes 138 (CurD.mk x0 r.1 r.2) y.1 a0_0 c0_0]) := by
 unfold spec_l01New at h
 refine en Tryz.func49 Tryz.ntmps49 ?_
 refine qs (qr (oN 1 [] [0] ?_))
 refine oe (nt (qs (qr (oN 4 [(3, vi (w64 (98011 + (x0.length : Int))))] [0] ?_))))
 refine oe (nt (qs (qs (qr (oN 1 [(4, vi 0)] [3, 0] ?_)))))
 refine oe (nt ?_)
 obtain ⟨r24, hL25, h26⟩ := bS h
 obtain ⟨k27, hk28, h26⟩ := brkS h26
 refine JC_cutP (τ := (Int) × (Unit)) (fun y => k27 y.1 = some r) (fun y32 => [(3, vi y32.1), (0, .v (.slice a0_0 x0.length c0_0))]) (fun y32 => []) (fun y32 => []) ?_ (fun y32 h33p => ?_)
 · refine qb (lp Unit hL25 (fun s21 y22 => [(4, vi s21.1), (3, vi s21.2), (0, .v (.slice a0_0 x0.length c0_0))]) (fun s21 y22 => []) (fun s21 y22 => []) () [4, 3, 0] [] 0 (fun s21 y22 t23 h29 hd30 => ?_))
   refine qs (qs ?_)
   obtain ⟨p35, hE36, h37⟩ := bS h29
   refine JC_cut (τ := Unit) (fun _ => [(0, .v (.slice a0_0 x0.length c0_0)), (3, vi s21.2), (4, vi s21.1), (15, vb p35)]) (fun _ => []) (fun _ => []) ?_ (fun _ => ?_)
   · refine qr (oN 5 [(12, vb (decide (s21.1 < (x0.length : Int))))] [4, 3, 0] ?_)
     refine oS 12 hE36 (fun h39 => ?_) (fun h40 => ?_)
     · refine oN 3 [(15, vb (decide (s21.1 < 4000)))] [4, 3, 0] ?_
       refine oe ?_
       obtain rfl := sI h39
       exact mt () [0, 3, 4, 15] [] 0
     refine oN 3 [(15, vb false)] [4, 3, 0] ?_
     refine oe ?_
     obtain rfl := sI h40
     exact mt () [0, 3, 4, 15] [] 0
   refine nt (cC h37 (fun h42 => ?_) (fun h43 => ?_))
   · refine qk (nt (qs (qb (qr (oN 4 [(21, vi s21.1), (20, .v (.slice a0_0 x0.length c0_0)), (19, vi (w64 (s21.2 * 131)))] [0, 4] ?_)))))
     obtain ⟨x44, hx45, h46⟩ := bS h42
     refine oi 1 (fun γ w hs => (hv0_0.kept hs.kept)) hx45 ?_
     refine ol 5 0 (.int .u8 x44.n) (fun γ w hs => (hv0_0.kept hs.kept).flatq hx45) ?_
     refine oN 5 [(3, vi (and64 (w64 ((w64 ((w64 (s21.2 * 131)) + (w64 x44.n))) + 7)) 1073741823))] [0, 4] ?_
     refine oe (bn (nt (qr (oN 3 [(4, vi (w64 (s21.1 + 1)))] [3, 0] ?_))))
     exact oe (ct h46 () [4, 3, 0] [] 0)
   refine qx (nx (nx (bh ?_)))
   have h47 := leafB hd30 h43 h26
   exact mp (s21.2, ()) h47 [3, 0] [] 0
 have h33 := (congrFun hk28 _).symm.trans h33p
 refine nt (qs (qr (oN 3 [(30, .v (.agg #[.slice a0_0 x0.length c0_0, .int .i64 0, .int .i64 y32.1]))] [] ?_)))
 refine JO_newcur rfl (by kernel_rfl) (e := 138) (x := (CurD.mk x0 0 y32.1)) (a0 := a0_0) (c := c0_0) (cs := curCells (CurD.mk x0 0 y32.1) a0_0 c0_0) (by kernel_rfl) rfl (fun y34 => [(31, .q y34.1 0), (30, .v (.agg #[.slice a0_0 x0.length c0_0, .int .i64 0, .int .i64 y32.1]))]) (fun y34 => by kernel_rfl) (fun y34 => ?_)
 refine oN 1 [(2, .q y34.1 0)] [] ?_
 refine oe (nt (qe (JE_q1 ?_)))
 refine rt [(SV.q y34.1 0).den []] (fun γ w hs => ?_)
 rw [← sI h33]
 exact ⟨y34, rfl, hs.kept.toBelow, (hs.takeR (is := [0]) rfl).fresh⟩

theorem c_spec_l01Byte {W : World} {xb0 : List U8} {xi0 xh0 : Int} {p0 ca0 : Option Addr} {cc0 : Nat} {r : Int × Int × Int} (h : spec_l01Byte xb0 xi0 xh0 = some r) (hv0_0 : SlView W xb0 ca0 cc0) :
    GivesC Tryz.prog 138 88 #[(SV.q p0 0).den []] W (CurD.mk xb0 xi0 xh0) p0 ca0 cc0 (CurD.mk xb0 r.2.1 r.2.2) (fun y : Unit => .int .i64 r.1) (fun y => []) := by
 unfold spec_l01Byte at h
 refine enterC [.q p0 0] (args := [(SV.q p0 0).den []]) hv0_0 (by kernel_rfl) (by kernel_rfl) Tryz.func88 rfl Tryz.ntmps88 (by kernel_rfl) (fun g hg hs0 => ?_)
 refine qs (qr (oN 1 [] [0] ?_))
 refine oe (nt (qs (qr (oN 2 [(5, .q p0 0), (4, .q p0 0)] [0] ?_))))
 refine JO_nilq rfl (by kernel_rfl) (d := p0) (k := 0) (by kernel_rfl) (sl' := [(6, .q p0 0), (5, .q p0 0), (4, .q p0 0), (0, .q p0 0)]) (by kernel_rfl) ?_
 refine oN 1 [(7, .q p0 (0 + 2))] [4, 0] ?_
 refine ol 3 2 (.int .i64 xh0) (fun γ w hs => hs.cur 0 rfl) ?_
 refine oN 2 [(10, vi (w64 ((w64 (xh0 * 6364136223846793005)) + 1442695040888963407)))] [4, 0] ?_
 refine JO_nilq rfl (by kernel_rfl) (d := p0) (k := 0) (by kernel_rfl) (sl' := [(11, .q p0 0), (10, vi (w64 ((w64 (xh0 * 6364136223846793005)) + 1442695040888963407))), (4, .q p0 0), (0, .q p0 0)]) (by kernel_rfl) ?_
 refine oN 1 [(12, .q p0 (0 + 2))] [10, 0] ?_
 refine JO_cstore (e := 138) (x := CurD.mk xb0 xi0 xh0) (x' := CurD.mk xb0 xi0 (w64 ((w64 (xh0 * 6364136223846793005)) + 1442695040888963407))) (p := p0) (a0 := ca0) (c := cc0) rfl (by kernel_rfl) (2) (vs := [.int .i64 (w64 ((w64 (xh0 * 6364136223846793005)) + 1442695040888963407))]) (by kernel_rfl) (by kernel_rfl) (by kernel_rfl) (Rr := []) rfl (sl' := [(12, .q p0 (0 + 2)), (10, vi (w64 ((w64 (xh0 * 6364136223846793005)) + 1442695040888963407))), (0, .q p0 0)]) (by kernel_rfl) ?_
 refine oe (nt (qs (JC_quiet (by kernel_rfl) (by kernel_rfl) ?_)))
 refine qN 1 [(13, .q p0 0)] [0] ?_
 refine JQ_nilq rfl (by kernel_rfl) (d := p0) (k := 0) (by kernel_rfl) (sl' := [(14, .q p0 0), (13, .q p0 0), (0, .q p0 0)]) (by kernel_rfl) ?_
 refine qN 1 [(15, .q p0 (0 + 2))] [0] ?_
 refine ql 3 2 (.int .i64 (w64 ((w64 (xh0 * 6364136223846793005)) + 1442695040888963407))) (fun γ w hs => hs.cur 0 rfl) ?_
 refine qN 2 [(18, .q p0 0), (17, vi (Int.fdiv (w64 ((w64 (xh0 * 6364136223846793005)) + 1442695040888963407)) 8589934592))] [0] ?_
 refine JQ_nilq rfl (by kernel_rfl) (d := p0) (k := 0) (by kernel_rfl) (sl' := [(19, .q p0 0), (18, .q p0 0), (17, vi (Int.fdiv (w64 ((w64 (xh0 * 6364136223846793005)) + 1442695040888963407)) 8589934592)), (0, .q p0 0)]) (by kernel_rfl) ?_
 refine qN 1 [(20, .q p0 (0 + 2))] [17, 0] ?_
 refine ql 3 2 (.int .i64 (w64 ((w64 (xh0 * 6364136223846793005)) + 1442695040888963407))) (fun γ w hs => hs.cur 0 rfl) ?_
 refine qN 4 [(3, vi (and64 (xor64 (Int.fdiv (w64 ((w64 (xh0 * 6364136223846793005)) + 1442695040888963407)) 8589934592) (Int.fdiv (w64 ((w64 (xh0 * 6364136223846793005)) + 1442695040888963407)) 35184372088832)) 255))] [0] ?_
 refine qz (nt (qs (qs (JC_quiet (by kernel_rfl) (by kernel_rfl) ?_))))
 refine qN 1 [(25, .q p0 0)] [3, 0] ?_
 refine JQ_nilq rfl (by kernel_rfl) (d := p0) (k := 0) (by kernel_rfl) (sl' := [(26, .q p0 0), (25, .q p0 0), (3, vi (and64 (xor64 (Int.fdiv (w64 ((w64 (xh0 * 6364136223846793005)) + 1442695040888963407)) 8589934592) (Int.fdiv (w64 ((w64 (xh0 * 6364136223846793005)) + 1442695040888963407)) 35184372088832)) 255)), (0, .q p0 0)]) (by kernel_rfl) ?_
 refine qN 1 [(27, .q p0 (0 + 1))] [3, 0] ?_
 refine ql 3 1 (.int .i64 xi0) (fun γ w hs => hs.cur 0 rfl) ?_
 refine qN 1 [(29, .q p0 0)] [28, 3, 0] ?_
 refine JQ_nilq rfl (by kernel_rfl) (d := p0) (k := 0) (by kernel_rfl) (sl' := [(30, .q p0 0), (29, .q p0 0), (28, vi xi0), (3, vi (and64 (xor64 (Int.fdiv (w64 ((w64 (xh0 * 6364136223846793005)) + 1442695040888963407)) 8589934592) (Int.fdiv (w64 ((w64 (xh0 * 6364136223846793005)) + 1442695040888963407)) 35184372088832)) 255)), (0, .q p0 0)]) (by kernel_rfl) ?_
 refine qN 1 [(31, .q p0 (0))] [28, 3, 0] ?_
 refine ql 22 0 (.slice ca0 xb0.length cc0) (fun γ w hs => hs.cur 0 rfl) ?_
 refine qN 2 [(34, vb (decide (xi0 < (xb0.length : Int))))] [3, 0] ?_
 refine qz (nt ?_)
 obtain ⟨k27, hk28, h30⟩ := jS h
 refine JC_cutP (τ := (Int × Int) × (Unit)) (fun y => k27 y.1 = some r) (fun y26 => [(3, vi y26.1.1), (0, .q p0 0)]) (fun y26 => []) (fun y26 => [CurRes 138 (CurD.mk xb0 y26.1.2 (w64 ((w64 (xh0 * 6364136223846793005)) + 1442695040888963407))) p0 ca0 cc0]) ?_ (fun y26 h29p => ?_)
 · refine cC h30 (fun h32 => ?_) (fun h33 => ?_)
   · refine qs (JC_quiet (by kernel_rfl) (by kernel_rfl) ?_)
     refine qN 2 [(36, .q p0 0), (35, vi (and64 (xor64 (Int.fdiv (w64 ((w64 (xh0 * 6364136223846793005)) + 1442695040888963407)) 8589934592) (Int.fdiv (w64 ((w64 (xh0 * 6364136223846793005)) + 1442695040888963407)) 35184372088832)) 255))] [0] ?_
     refine JQ_nilq rfl (by kernel_rfl) (d := p0) (k := 0) (by kernel_rfl) (sl' := [(37, .q p0 0), (36, .q p0 0), (35, vi (and64 (xor64 (Int.fdiv (w64 ((w64 (xh0 * 6364136223846793005)) + 1442695040888963407)) 8589934592) (Int.fdiv (w64 ((w64 (xh0 * 6364136223846793005)) + 1442695040888963407)) 35184372088832)) 255)), (0, .q p0 0)]) (by kernel_rfl) ?_
     refine qN 1 [(38, .q p0 (0))] [35, 0] ?_
     refine ql 22 0 (.slice ca0 xb0.length cc0) (fun γ w hs => hs.cur 0 rfl) ?_
     refine qN 1 [(40, .q p0 0)] [39, 35, 0] ?_
     refine JQ_nilq rfl (by kernel_rfl) (d := p0) (k := 0) (by kernel_rfl) (sl' := [(41, .q p0 0), (40, .q p0 0), (39, .v (.slice ca0 xb0.length cc0)), (35, vi (and64 (xor64 (Int.fdiv (w64 ((w64 (xh0 * 6364136223846793005)) + 1442695040888963407)) 8589934592) (Int.fdiv (w64 ((w64 (xh0 * 6364136223846793005)) + 1442695040888963407)) 35184372088832)) 255)), (0, .q p0 0)]) (by kernel_rfl) ?_
     refine qN 1 [(42, .q p0 (0 + 1))] [39, 35, 0] ?_
     refine ql 3 1 (.int .i64 xi0) (fun γ w hs => hs.cur 0 rfl) ?_
     obtain ⟨x34, hx35, h36⟩ := bS h32
     refine qi 1 (fun γ w hs => (hs0.kept hs.kept)) hx35 ?_
     refine ql 5 0 (.int .u8 x34.n) (fun γ w hs => (hs0.kept hs.kept).flatq hx35) ?_
     refine qN 4 [(3, vi (and64 (w64 ((and64 (xor64 (Int.fdiv (w64 ((w64 (xh0 * 6364136223846793005)) + 1442695040888963407)) 8589934592) (Int.fdiv (w64 ((w64 (xh0 * 6364136223846793005)) + 1442695040888963407)) 35184372088832)) 255) + (w64 x34.n))) 255))] [0] ?_
     refine qz (nt (qr (oN 2 [(50, .q p0 0), (49, .q p0 0)] [3, 0] ?_)))
     refine JO_nilq rfl (by kernel_rfl) (d := p0) (k := 0) (by kernel_rfl) (sl' := [(51, .q p0 0), (50, .q p0 0), (49, .q p0 0), (3, vi (and64 (w64 ((and64 (xor64 (Int.fdiv (w64 ((w64 (xh0 * 6364136223846793005)) + 1442695040888963407)) 8589934592) (Int.fdiv (w64 ((w64 (xh0 * 6364136223846793005)) + 1442695040888963407)) 35184372088832)) 255) + (w64 x34.n))) 255)), (0, .q p0 0)]) (by kernel_rfl) ?_
     refine oN 1 [(52, .q p0 (0 + 1))] [49, 3, 0] ?_
     refine ol 3 1 (.int .i64 xi0) (fun γ w hs => hs.cur 0 rfl) ?_
     refine oN 1 [(54, vi (w64 (xi0 + 1)))] [49, 3, 0] ?_
     refine JO_nilq rfl (by kernel_rfl) (d := p0) (k := 0) (by kernel_rfl) (sl' := [(55, .q p0 0), (54, vi (w64 (xi0 + 1))), (49, .q p0 0), (3, vi (and64 (w64 ((and64 (xor64 (Int.fdiv (w64 ((w64 (xh0 * 6364136223846793005)) + 1442695040888963407)) 8589934592) (Int.fdiv (w64 ((w64 (xh0 * 6364136223846793005)) + 1442695040888963407)) 35184372088832)) 255) + (w64 x34.n))) 255)), (0, .q p0 0)]) (by kernel_rfl) ?_
     refine oN 1 [(56, .q p0 (0 + 1))] [54, 3, 0] ?_
     refine JO_cstore (e := 138) (x := CurD.mk xb0 xi0 (w64 ((w64 (xh0 * 6364136223846793005)) + 1442695040888963407))) (x' := CurD.mk xb0 (w64 (xi0 + 1)) (w64 ((w64 (xh0 * 6364136223846793005)) + 1442695040888963407))) (p := p0) (a0 := ca0) (c := cc0) rfl (by kernel_rfl) (1) (vs := [.int .i64 (w64 (xi0 + 1))]) (by kernel_rfl) (by kernel_rfl) (by kernel_rfl) (Rr := []) rfl (sl' := [(56, .q p0 (0 + 1)), (54, vi (w64 (xi0 + 1))), (3, vi (and64 (w64 ((and64 (xor64 (Int.fdiv (w64 ((w64 (xh0 * 6364136223846793005)) + 1442695040888963407)) 8589934592) (Int.fdiv (w64 ((w64 (xh0 * 6364136223846793005)) + 1442695040888963407)) 35184372088832)) 255) + (w64 x34.n))) 255)), (0, .q p0 0)]) (by kernel_rfl) ?_
     exact oe (mp ((and64 (w64 ((and64 (xor64 (Int.fdiv (w64 ((w64 (xh0 * 6364136223846793005)) + 1442695040888963407)) 8589934592) (Int.fdiv (w64 ((w64 (xh0 * 6364136223846793005)) + 1442695040888963407)) 35184372088832)) 255) + (w64 x34.n))) 255, w64 (xi0 + 1)), ()) h36 [3, 0] [0] 0)
   exact qk (mp ((and64 (xor64 (Int.fdiv (w64 ((w64 (xh0 * 6364136223846793005)) + 1442695040888963407)) 8589934592) (Int.fdiv (w64 ((w64 (xh0 * 6364136223846793005)) + 1442695040888963407)) 35184372088832)) 255, xi0), ()) h33 [3, 0] [0] 0)
 have h29 := (congrFun hk28 _).symm.trans h29p
 refine nt (qs (qr (oN 2 [(2, vi y26.1.1)] [0] ?_)))
 refine oe (nt (qe (rt [.int .i64 y26.1.1] (fun γ w hs => ?_))))
 rw [← sI h29]
 exact hs.curPost hg () (is := [0]) rfl

theorem c_spec_l01Below {W : World} {xb0 : List U8} {xi0 xh0 : Int} {p0 ca0 : Option Addr} {cc0 : Nat} {x1 : Int} {r : Int × Int × Int} (h : spec_l01Below xb0 xi0 xh0 x1 = some r) (hv0_0 : SlView W xb0 ca0 cc0) :
    GivesC Tryz.prog 138 50 #[(SV.q p0 0).den [], .int .i64 x1] W (CurD.mk xb0 xi0 xh0) p0 ca0 cc0 (CurD.mk xb0 r.2.1 r.2.2) (fun y : Unit => .int .i64 r.1) (fun y => []) := by
 unfold spec_l01Below at h
 refine enterC [.q p0 0, vi x1] (args := [(SV.q p0 0).den [], .int .i64 x1]) hv0_0 (by kernel_rfl) (by kernel_rfl) Tryz.func50 rfl Tryz.ntmps50 (by kernel_rfl) (fun g hg hs0 => ?_)
 refine qs (qr (oN 1 [] [0, 1] ?_))
 refine oe (nt (qs (qs (qr (oN 2 [(10, vb (decide (x1 ≤ 0)))] [0, 1] ?_)))))
 refine oe (nt (cC h (fun h22 => ?_) (fun h23 => ?_)))
 · refine qs (qr (oN 1 [(4, vi 0)] [0] ?_))
   refine oe (nt (qe (nr (rt [.int .i64 0] (fun γ w hs => ?_)))))
   rw [← sI h22]
   exact hs.curPost hg () (is := [0]) rfl
 refine qk (nt (qs (qs (qr (oN 2 [(12, vb (decide (x1 ≤ 256)))] [0, 1] ?_)))))
 refine oe (nt (cC h23 (fun h32 => ?_) (fun h33 => ?_)))
 · refine qs (qr (oN 1 [(13, .q p0 0)] [0, 1] ?_))
   obtain ⟨t34, h35, h36⟩ := bS h32
   refine JO_callC rfl (by kernel_rfl) (f := 88) (args := fun γ => #[(SV.q p0 0).den []]) (fun γ => by kernel_rfl) (x0 := CurD.mk xb0 xi0 xh0) (x1 := CurD.mk xb0 t34.2.1 t34.2.2) (Rr := []) rfl hs0 (fun γ w hs => (by have vv := c_spec_l01Byte (p0 := p0) (W := w) h35 (hs0.kept hs.kept); exact vv)) (fun (y37 : Unit) => [(14, vi t34.1), (13, .q p0 0), (0, .q p0 0), (1, vi x1)]) (fun y37 => by kernel_rfl) (fun y37 => ?_)
   refine oN 1 [(15, vi x1)] [14, 0] ?_
   obtain ⟨u40, hz39, h38⟩ := bS h36
   refine JO_div rfl (by kernel_rfl) (op := .rem) (k := .i64) (x := t34.1) (y := x1) (by kernel_rfl) (nz_some hz39) rfl ?_
   refine oN 1 [(4, vi (Int.tmod t34.1 x1))] [0] ?_
   refine oe (nt (qe (nr (rt [.int .i64 (Int.tmod t34.1 x1)] (fun γ w hs => ?_)))))
   rw [← sI h38]
   exact hs.curPost hg () (is := [0]) rfl
 refine qk (nt (qs (qr (oN 1 [(17, .q p0 0)] [0, 1] ?_))))
 obtain ⟨t41, h42, h43⟩ := bS h33
 refine JO_callC rfl (by kernel_rfl) (f := 88) (args := fun γ => #[(SV.q p0 0).den []]) (fun γ => by kernel_rfl) (x0 := CurD.mk xb0 xi0 xh0) (x1 := CurD.mk xb0 t41.2.1 t41.2.2) (Rr := []) rfl hs0 (fun γ w hs => (by have vv := c_spec_l01Byte (p0 := p0) (W := w) h42 (hs0.kept hs.kept); exact vv)) (fun (y44 : Unit) => [(18, vi t41.1), (17, .q p0 0), (0, .q p0 0), (1, vi x1)]) (fun y44 => by kernel_rfl) (fun y44 => ?_)
 refine oN 1 [(5, vi t41.1)] [0, 1] ?_
 refine oe (nt (qs (qr (oN 1 [(19, .q p0 0)] [5, 0, 1] ?_))))
 obtain ⟨t45, h46, h47⟩ := bS h43
 refine JO_callC rfl (by kernel_rfl) (f := 88) (args := fun γ => #[(SV.q p0 0).den []]) (fun γ => by kernel_rfl) (x0 := CurD.mk xb0 t41.2.1 t41.2.2) (x1 := CurD.mk xb0 t45.2.1 t45.2.2) (Rr := []) rfl hs0 (fun γ w hs => (by have vv := c_spec_l01Byte (p0 := p0) (W := w) h46 (hs0.kept hs.kept); exact vv)) (fun (y48 : Unit) => [(20, vi t45.1), (19, .q p0 0), (5, vi t41.1), (0, .q p0 0), (1, vi x1)]) (fun y48 => by kernel_rfl) (fun y48 => ?_)
 refine oN 1 [(6, vi t45.1)] [5, 0, 1] ?_
 refine oe (nt (qs (qr (oN 1 [(21, .q p0 0)] [6, 5, 0, 1] ?_))))
 obtain ⟨t49, h50, h51⟩ := bS h47
 refine JO_callC rfl (by kernel_rfl) (f := 88) (args := fun γ => #[(SV.q p0 0).den []]) (fun γ => by kernel_rfl) (x0 := CurD.mk xb0 t45.2.1 t45.2.2) (x1 := CurD.mk xb0 t49.2.1 t49.2.2) (Rr := []) rfl hs0 (fun γ w hs => (by have vv := c_spec_l01Byte (p0 := p0) (W := w) h50 (hs0.kept hs.kept); exact vv)) (fun (y52 : Unit) => [(22, vi t49.1), (21, .q p0 0), (6, vi t45.1), (5, vi t41.1), (0, .q p0 0), (1, vi x1)]) (fun y52 => by kernel_rfl) (fun y52 => ?_)
 refine oN 1 [(7, vi t49.1)] [6, 5, 0, 1] ?_
 refine oe (nt (qs (qr (oN 1 [(23, .q p0 0)] [7, 6, 5, 0, 1] ?_))))
 obtain ⟨t53, h54, h55⟩ := bS h51
 refine JO_callC rfl (by kernel_rfl) (f := 88) (args := fun γ => #[(SV.q p0 0).den []]) (fun γ => by kernel_rfl) (x0 := CurD.mk xb0 t49.2.1 t49.2.2) (x1 := CurD.mk xb0 t53.2.1 t53.2.2) (Rr := []) rfl hs0 (fun γ w hs => (by have vv := c_spec_l01Byte (p0 := p0) (W := w) h54 (hs0.kept hs.kept); exact vv)) (fun (y56 : Unit) => [(24, vi t53.1), (23, .q p0 0), (7, vi t49.1), (6, vi t45.1), (5, vi t41.1), (0, .q p0 0), (1, vi x1)]) (fun y56 => by kernel_rfl) (fun y56 => ?_)
 refine oN 1 [(8, vi t53.1)] [7, 6, 5, 0, 1] ?_
 refine oe (nt (qs (qr (oN 11 [(35, vi x1), (34, vi (w64 ((w64 ((w64 ((w64 (t41.1 * 16777216)) + (w64 (t45.1 * 65536)))) + (w64 (t49.1 * 256)))) + t53.1)))] [0] ?_))))
 obtain ⟨u59, hz58, h57⟩ := bS h55
 refine JO_div rfl (by kernel_rfl) (op := .rem) (k := .i64) (x := (w64 ((w64 ((w64 ((w64 (t41.1 * 16777216)) + (w64 (t45.1 * 65536)))) + (w64 (t49.1 * 256)))) + t53.1))) (y := x1) (by kernel_rfl) (nz_some hz58) rfl ?_
 refine oN 1 [(4, vi (Int.tmod (w64 ((w64 ((w64 ((w64 (t41.1 * 16777216)) + (w64 (t45.1 * 65536)))) + (w64 (t49.1 * 256)))) + t53.1)) x1))] [0] ?_
 refine oe (nt (qe (rt [.int .i64 (Int.tmod (w64 ((w64 ((w64 ((w64 (t41.1 * 16777216)) + (w64 (t45.1 * 65536)))) + (w64 (t49.1 * 256)))) + t53.1)) x1)] (fun γ w hs => ?_))))
 rw [← sI h57]
 exact hs.curPost hg () (is := [0]) rfl

theorem c_spec_l05Fact {W : World} {xb0 : List U8} {xi0 xh0 : Int} {p0 ca0 : Option Addr} {cc0 : Nat} {x1 : Int} {r : Fact × Int × Int} (h : spec_l05Fact xb0 xi0 xh0 x1 = some r) (hv0_0 : SlView W xb0 ca0 cc0) :
    GivesC Tryz.prog 138 84 #[(SV.q p0 0).den [], .int .i64 x1] W (CurD.mk xb0 xi0 xh0) p0 ca0 cc0 (CurD.mk xb0 r.2.1 r.2.2) (fun y : Unit => vFact r.1) (fun y => []) := by
 unfold spec_l05Fact at h
 refine enterC [.q p0 0, vi x1] (args := [(SV.q p0 0).den [], .int .i64 x1]) hv0_0 (by kernel_rfl) (by kernel_rfl) Tryz.func84 rfl Tryz.ntmps84 (by kernel_rfl) (fun g hg hs0 => ?_)
 refine qs (qr (oB 1 [(4, .p 0 0)] [0, 1] [(47, (eFact (Fact.mk 0 0 0 0 0)))] ?_))
 refine oe (nt (qs (qr (oN 1 [(6, .q p0 0)] [4, 0, 1] ?_))))
 obtain ⟨t21, h22, h23⟩ := bS h
 refine JO_callC rfl (by kernel_rfl) (f := 50) (args := fun γ => #[(SV.q p0 0).den [], .int .i64 60]) (fun γ => by kernel_rfl) (x0 := CurD.mk xb0 xi0 xh0) (x1 := CurD.mk xb0 t21.2.1 t21.2.2) (Rr := []) rfl hs0 (fun γ w hs => (by have vv := c_spec_l01Below (p0 := p0) (W := w) h22 (hs0.kept hs.kept); exact vv)) (fun (y24 : Unit) => [(7, vi t21.1), (6, .q p0 0), (4, .p 0 0), (0, .q p0 0), (1, vi x1)]) (fun y24 => by kernel_rfl) (fun y24 => ?_)
 refine oN 1 [(5, vi t21.1)] [4, 0, 1] ?_
 refine oe (nt (qs (qr (oN 1 [(8, .q p0 0)] [5, 4, 0, 1] ?_))))
 obtain ⟨t25, h26, h27⟩ := bS h23
 refine JO_callC rfl (by kernel_rfl) (f := 50) (args := fun γ => #[(SV.q p0 0).den [], .int .i64 4]) (fun γ => by kernel_rfl) (x0 := CurD.mk xb0 t21.2.1 t21.2.2) (x1 := CurD.mk xb0 t25.2.1 t25.2.2) (Rr := []) rfl hs0 (fun γ w hs => (by have vv := c_spec_l01Below (p0 := p0) (W := w) h26 (hs0.kept hs.kept); exact vv)) (fun (y28 : Unit) => [(9, vi t25.1), (8, .q p0 0), (5, vi t21.1), (4, .p 0 0), (0, .q p0 0), (1, vi x1)]) (fun y28 => by kernel_rfl) (fun y28 => ?_)
 refine oN 5 [(14, .q p0 0), (13, vi (w64 (t21.1 + 1))), (11, vi t21.1), (10, vi (w64 (1 + t25.1)))] [4, 0, 1] ?_
 obtain ⟨t29, h30, h31⟩ := bS h27
 refine JO_callC rfl (by kernel_rfl) (f := 50) (args := fun γ => #[(SV.q p0 0).den [], .int .i64 40]) (fun γ => by kernel_rfl) (x0 := CurD.mk xb0 t25.2.1 t25.2.2) (x1 := CurD.mk xb0 t29.2.1 t29.2.2) (Rr := []) rfl hs0 (fun γ w hs => (by have vv := c_spec_l01Below (p0 := p0) (W := w) h30 (hs0.kept hs.kept); exact vv)) (fun (y32 : Unit) => [(15, vi t29.1), (14, .q p0 0), (13, vi (w64 (t21.1 + 1))), (11, vi t21.1), (10, vi (w64 (1 + t25.1))), (4, .p 0 0), (0, .q p0 0), (1, vi x1)]) (fun y32 => by kernel_rfl) (fun y32 => ?_)
 refine oN 3 [(18, .q p0 0), (17, vi x1), (16, vi (w64 ((w64 (t21.1 + 1)) + t29.1)))] [11, 10, 4, 0] ?_
 obtain ⟨t33, h34, h35⟩ := bS h31
 refine JO_callC rfl (by kernel_rfl) (f := 50) (args := fun γ => #[(SV.q p0 0).den [], .int .i64 500]) (fun γ => by kernel_rfl) (x0 := CurD.mk xb0 t29.2.1 t29.2.2) (x1 := CurD.mk xb0 t33.2.1 t33.2.2) (Rr := []) rfl hs0 (fun γ w hs => (by have vv := c_spec_l01Below (p0 := p0) (W := w) h34 (hs0.kept hs.kept); exact vv)) (fun (y36 : Unit) => [(19, vi t33.1), (18, .q p0 0), (17, vi x1), (16, vi (w64 ((w64 (t21.1 + 1)) + t29.1))), (11, vi t21.1), (10, vi (w64 (1 + t25.1))), (4, .p 0 0), (0, .q p0 0)]) (fun y36 => by kernel_rfl) (fun y36 => ?_)
 refine oB 3 [] [4, 0] [(47, (eFact (Fact.mk (w64 (1 + t25.1)) t21.1 (w64 ((w64 (t21.1 + 1)) + t29.1)) x1 (w64 (t33.1 * 100)))))] ?_
 refine oe (nt (qe (rt [vFact (Fact.mk (w64 (1 + t25.1)) t21.1 (w64 ((w64 (t21.1 + 1)) + t29.1)) x1 (w64 (t33.1 * 100)))] (fun γ w hs => ?_))))
 rw [← sI h35]
 exact hs.curPost hg () (is := [0]) rfl

theorem c_spec_l05Store {W : World} {xb0 : List U8} {xi0 xh0 : Int} {p0 ca0 : Option Addr} {cc0 : Nat} {r : Store × Int × Int} (h : spec_l05Store xb0 xi0 xh0 = some r) (hv0_0 : SlView W xb0 ca0 cc0) :
    GivesC Tryz.prog 138 112 #[(SV.q p0 0).den []] W (CurD.mk xb0 xi0 xh0) p0 ca0 cc0 (CurD.mk xb0 r.2.1 r.2.2) (fun y : AC => vStore r.1 y) (fun y => [SlRes 47 r.1.Facts y.1 y.2]) := by
 unfold spec_l05Store at h
 refine enterC [.q p0 0] (args := [(SV.q p0 0).den []]) hv0_0 (by kernel_rfl) (by kernel_rfl) Tryz.func112 rfl Tryz.ntmps112 (by kernel_rfl) (fun g hg hs0 => ?_)
 refine qs (qr (oB 1 [(2, .p 0 0)] [0] [(29, [.slice none 0 0])] ?_))
 refine oe (nt (qs (qr (oB 3 [(3, .p 1 0)] [2, 0] [(29, [.slice none 0 0]), (29, [.slice none 0 0])] ?_))))
 refine oe (nt (qs (qr (oN 1 [(7, .q p0 0)] [3, 2, 0] ?_))))
 obtain ⟨t21, h22, h23⟩ := bS h
 refine JO_callC rfl (by kernel_rfl) (f := 50) (args := fun γ => #[(SV.q p0 0).den [], .int .i64 10]) (fun γ => by kernel_rfl) (x0 := CurD.mk xb0 xi0 xh0) (x1 := CurD.mk xb0 t21.2.1 t21.2.2) (Rr := []) rfl hs0 (fun γ w hs => (by have vv := c_spec_l01Below (p0 := p0) (W := w) h22 (hs0.kept hs.kept); exact vv)) (fun (y24 : Unit) => [(8, vi t21.1), (7, .q p0 0), (3, .p 1 0), (2, .p 0 0), (0, .q p0 0)]) (fun y24 => by kernel_rfl) (fun y24 => ?_)
 refine oN 1 [(4, vi t21.1)] [3, 2, 0] ?_
 refine oe (nt (qs (qs (qr (oN 1 [(5, vi 0)] [4, 3, 2, 0] ?_)))))
 refine oe (nt (JC_addnil 47 (List.nil (α := Fact)) rfl ?_))
 obtain ⟨r28, hL29, h30⟩ := bS h23
 obtain ⟨k31, hk32, h30⟩ := brkS h30
 refine JC_cutP (τ := (Int × Int × (List Fact)) × (AC)) (fun y => k31 y.1 = some r) (fun y36 => [(3, .p 1 0), (2, .p 0 0), (0, .q p0 0)]) (fun y36 => [(29, [.slice none 0 0]), (29, (eStore (Store.mk y36.1.2.2) y36.2))]) (fun y36 => [SlRes 47 y36.1.2.2 y36.2.1 y36.2.2, CurRes 138 (CurD.mk xb0 y36.1.1 y36.1.2.1) p0 ca0 cc0]) ?_ (fun y36 h37p => ?_)
 · refine qb (lp AC hL29 (fun s25 y26 => [(5, vi s25.1), (4, vi s25.2.1), (3, .p 1 0), (2, .p 0 0), (0, .q p0 0)]) (fun s25 y26 => [(29, [.slice none 0 0]), (29, (eStore (Store.mk s25.2.2.2.2) y26))]) (fun s25 y26 => [SlRes 47 s25.2.2.2.2 y26.1 y26.2, CurRes 138 (CurD.mk xb0 s25.2.2.1 s25.2.2.2.1) p0 ca0 cc0]) (none, 0) [5, 4, 3, 2, 0] [0, 0] 2 (fun s25 y26 t27 h33 hd34 => ?_))
   refine qs (qs (qr (oN 2 [(10, .q p0 0), (9, vi s25.1)] [5, 4, 3, 2, 0] ?_)))
   refine or_ [1, 0] ?_
   obtain ⟨t38, h39, h40⟩ := bS h33
   refine JO_callC rfl (by kernel_rfl) (f := 50) (args := fun γ => #[(SV.q p0 0).den [], .int .i64 10]) (fun γ => by kernel_rfl) (x0 := CurD.mk xb0 s25.2.2.1 s25.2.2.2.1) (x1 := CurD.mk xb0 t38.2.1 t38.2.2) (Rr := [SlRes 47 s25.2.2.2.2 y26.1 y26.2]) rfl hs0 (fun γ w hs => (by have vv := c_spec_l01Below (p0 := p0) (W := w) h39 (hs0.kept hs.kept); exact vv)) (fun (y41 : Unit) => [(11, vi t38.1), (10, .q p0 0), (9, vi s25.1), (5, vi s25.1), (4, vi s25.2.1), (3, .p 1 0), (2, .p 0 0), (0, .q p0 0)]) (fun y41 => by kernel_rfl) (fun y41 => ?_)
   refine oN 1 [(12, vb (decide (s25.1 < t38.1)))] [5, 4, 3, 2, 0] ?_
   refine oe (nt (cC h40 (fun h43 => ?_) (fun h44 => ?_)))
   · refine qk (nt (qs (qb (qs (qr (oN 2 [(16, .q p0 0), (15, vi s25.2.1)] [5, 3, 2, 0] ?_))))))
     obtain ⟨t45, h46, h47⟩ := bS h43
     refine JO_callC rfl (by kernel_rfl) (f := 50) (args := fun γ => #[(SV.q p0 0).den [], .int .i64 12]) (fun γ => by kernel_rfl) (x0 := CurD.mk xb0 t38.2.1 t38.2.2) (x1 := CurD.mk xb0 t45.2.1 t45.2.2) (Rr := [SlRes 47 s25.2.2.2.2 y26.1 y26.2]) rfl hs0 (fun γ w hs => (by have vv := c_spec_l01Below (p0 := p0) (W := w) h46 (hs0.kept hs.kept); exact vv)) (fun (y48 : Unit) => [(17, vi t45.1), (16, .q p0 0), (15, vi s25.2.1), (5, vi s25.1), (3, .p 1 0), (2, .p 0 0), (0, .q p0 0)]) (fun y48 => by kernel_rfl) (fun y48 => ?_)
     refine oN 2 [(4, vi (w64 (s25.2.1 + t45.1)))] [5, 3, 2, 0] ?_
     refine oe (nt ?_)
     obtain ⟨t49, h50, h51⟩ := bS h47
     obtain ⟨l55, hm56, h57⟩ := bS h51
     refine JC_cut (τ := AC) (fun y58 => [(4, vi (w64 (s25.2.1 + t45.1))), (5, vi s25.1), (3, .p 1 0), (2, .p 0 0), (0, .q p0 0)]) (fun y58 => [(29, [.slice none 0 0]), (29, (eStore (Store.mk l55) y58))]) (fun y58 => [SlRes 47 l55 y58.1 y58.2, CurRes 138 (CurD.mk xb0 t49.2.1 t49.2.2) p0 ca0 cc0]) ?_ (fun y58 => ?_)
     · refine jw [4, 5, 3, 2, 0] [0, 0] ?_
       refine JC_heldN (ks := [0]) (Rk := []) 9 (by kernel_rfl) (by kernel_rfl) ?_
       refine htq 0 (.p 1 0) [] ?_
       refine htq 2 (.q p0 0) [] ?_
       refine htq 3 (vi (w64 (s25.2.1 + t45.1))) [] ?_
       refine ha2 1 4 ?_ ?_
       · refine hi (fun γ0 δ hm => ?_)
         refine gs [(20, .v (.slice y26.1 s25.2.2.2.2.length y26.2)), (22, vi (w64 (s25.2.1 + t45.1))), (21, .q p0 0), (19, .p 1 0), (4, vi (w64 (s25.2.1 + t45.1))), (5, vi s25.1), (3, .p 1 0), (2, .p 0 0), (0, .q p0 0)] [(29, [.slice none 0 0]), (29, (eStore (Store.mk s25.2.2.2.2) y26))] (fun δ2 => ?_)
         refine gd hm [20, 22, 21, 4, 5, 3, 2, 0] [] ?_
         refine ha1 4 ?_
         refine hi (fun γ0 δ hm => ?_)
         refine JG_callC (by kernel_rfl) (f := 84) (args := #[(SV.q p0 0).den [], .int .i64 (w64 (s25.2.1 + t45.1))]) (by kernel_rfl) (x0 := CurD.mk xb0 t45.2.1 t45.2.2) (x1 := CurD.mk xb0 t49.2.1 t49.2.2) (Rr := [SlRes 47 s25.2.2.2.2 y26.1 y26.2]) rfl hs0 (fun w hs => (by have vv := c_spec_l05Fact (p0 := p0) (W := w) h50 (hs0.kept hs.kept); exact vv)) (fun (y52 : Unit) => [(23, .v (vFact t49.1)), (20, .v (.slice y26.1 s25.2.2.2.2.length y26.2)), (22, vi (w64 (s25.2.1 + t45.1))), (21, .q p0 0), (4, vi (w64 (s25.2.1 + t45.1))), (5, vi s25.1), (3, .p 1 0), (2, .p 0 0), (0, .q p0 0)]) (fun y52 => by kernel_rfl) (fun y52 => ?_)
         refine gn hm [23, 20, 4, 5, 3, 2, 0] [] ?_
         refine ha1 5 ?_
         refine hi (fun γ0 δ hm => ?_)
         refine gb [] [CurRes 138 (CurD.mk xb0 t49.2.1 t49.2.2) p0 ca0 cc0, SlRes 47 s25.2.2.2.2 y26.1 y26.2] 47 1 [.int .i64 t49.1.Key, .int .i64 t49.1.From, .int .i64 t49.1.To, .int .i64 t49.1.Known, .int .i64 t49.1.Value] ([t49.1] : List Fact) (own_flat (by kernel_rfl)) (fun y53 => ?_)
         refine gn hm [24, 20, 4, 5, 3, 2, 0] [] ?_
         refine ha1 6 ?_
         refine hr_ [2, 0, 0] ?_
         refine hi (fun γ0 δ hm => ?_)
         refine ga 27 y53.2 Tryz.t47 (vFact (Fact.mk 0 0 0 0 0)) (fun w hs => ⟨y53.2, (hs.view 1 rfl)⟩) hm56 (fun y54 => ?_)
         refine gn hm [25, 4, 5, 3, 2, 0] [] ?_
         refine htq 7 (.p 1 0) [] ?_
         refine ha1 8 ?_
         refine hi (fun γ0 δ hm => ?_)
         refine gs [(26, .p 1 0), (25, .v (.slice y54.1 l55.length y54.2)), (4, vi (w64 (s25.2.1 + t45.1))), (5, vi s25.1), (3, .p 1 0), (2, .p 0 0), (0, .q p0 0)] [(29, [.slice none 0 0]), (29, (eStore (Store.mk l55) y54))] (fun δ2 => ?_)
         refine gd hm [4, 5, 3, 2, 0] [] ?_
         exact hd y54 [4, 5, 3, 2, 0] [0, 1] 2
       · refine hi (fun γ0 δ hm => ?_)
         refine JG_callC (by kernel_rfl) (f := 84) (args := #[(SV.q p0 0).den [], .int .i64 (w64 (s25.2.1 + t45.1))]) (by kernel_rfl) (x0 := CurD.mk xb0 t45.2.1 t45.2.2) (x1 := CurD.mk xb0 t49.2.1 t49.2.2) (Rr := [SlRes 47 s25.2.2.2.2 y26.1 y26.2]) rfl hs0 (fun w hs => (by have vv := c_spec_l05Fact (p0 := p0) (W := w) h50 (hs0.kept hs.kept); exact vv)) (fun (y52 : Unit) => [(23, .v (vFact t49.1)), (22, vi (w64 (s25.2.1 + t45.1))), (21, .q p0 0), (19, .p 1 0), (4, vi (w64 (s25.2.1 + t45.1))), (5, vi s25.1), (3, .p 1 0), (2, .p 0 0), (0, .q p0 0)]) (fun y52 => by kernel_rfl) (fun y52 => ?_)
         refine gn hm [23, 19, 4, 5, 3, 2, 0] [] ?_
         refine ha2 1 5 ?_ ?_
         · refine hi (fun γ0 δ hm => ?_)
           refine gs [(20, .v (.slice y26.1 s25.2.2.2.2.length y26.2)), (23, .v (vFact t49.1)), (19, .p 1 0), (4, vi (w64 (s25.2.1 + t45.1))), (5, vi s25.1), (3, .p 1 0), (2, .p 0 0), (0, .q p0 0)] [(29, [.slice none 0 0]), (29, (eStore (Store.mk s25.2.2.2.2) y26))] (fun δ2 => ?_)
           refine gd hm [20, 23, 4, 5, 3, 2, 0] [] ?_
           refine ha1 5 ?_
           refine hi (fun γ0 δ hm => ?_)
           refine gb [] [CurRes 138 (CurD.mk xb0 t49.2.1 t49.2.2) p0 ca0 cc0, SlRes 47 s25.2.2.2.2 y26.1 y26.2] 47 1 [.int .i64 t49.1.Key, .int .i64 t49.1.From, .int .i64 t49.1.To, .int .i64 t49.1.Known, .int .i64 t49.1.Value] ([t49.1] : List Fact) (own_flat (by kernel_rfl)) (fun y53 => ?_)
           refine gn hm [24, 20, 4, 5, 3, 2, 0] [] ?_
           refine ha1 6 ?_
           refine hr_ [2, 0, 0] ?_
           refine hi (fun γ0 δ hm => ?_)
           refine ga 27 y53.2 Tryz.t47 (vFact (Fact.mk 0 0 0 0 0)) (fun w hs => ⟨y53.2, (hs.view 1 rfl)⟩) hm56 (fun y54 => ?_)
           refine gn hm [25, 4, 5, 3, 2, 0] [] ?_
           refine htq 7 (.p 1 0) [] ?_
           refine ha1 8 ?_
           refine hi (fun γ0 δ hm => ?_)
           refine gs [(26, .p 1 0), (25, .v (.slice y54.1 l55.length y54.2)), (4, vi (w64 (s25.2.1 + t45.1))), (5, vi s25.1), (3, .p 1 0), (2, .p 0 0), (0, .q p0 0)] [(29, [.slice none 0 0]), (29, (eStore (Store.mk l55) y54))] (fun δ2 => ?_)
           refine gd hm [4, 5, 3, 2, 0] [] ?_
           exact hd y54 [4, 5, 3, 2, 0] [0, 1] 2
         · refine hi (fun γ0 δ hm => ?_)
           refine gb [] [CurRes 138 (CurD.mk xb0 t49.2.1 t49.2.2) p0 ca0 cc0, SlRes 47 s25.2.2.2.2 y26.1 y26.2] 47 1 [.int .i64 t49.1.Key, .int .i64 t49.1.From, .int .i64 t49.1.To, .int .i64 t49.1.Known, .int .i64 t49.1.Value] ([t49.1] : List Fact) (own_flat (by kernel_rfl)) (fun y53 => ?_)
           refine gn hm [24, 19, 4, 5, 3, 2, 0] [] ?_
           refine ha1 1 ?_
           refine hi (fun γ0 δ hm => ?_)
           refine gs [(20, .v (.slice y26.1 s25.2.2.2.2.length y26.2)), (24, .v (.slice y53.1 ([t49.1] : List Fact).length y53.2)), (19, .p 1 0), (4, vi (w64 (s25.2.1 + t45.1))), (5, vi s25.1), (3, .p 1 0), (2, .p 0 0), (0, .q p0 0)] [(29, [.slice none 0 0]), (29, (eStore (Store.mk s25.2.2.2.2) y26))] (fun δ2 => ?_)
           refine gd hm [20, 24, 4, 5, 3, 2, 0] [] ?_
           refine ha1 6 ?_
           refine hr_ [2, 0, 0] ?_
           refine hi (fun γ0 δ hm => ?_)
           refine ga 27 y53.2 Tryz.t47 (vFact (Fact.mk 0 0 0 0 0)) (fun w hs => ⟨y53.2, (hs.view 1 rfl)⟩) hm56 (fun y54 => ?_)
           refine gn hm [25, 4, 5, 3, 2, 0] [] ?_
           refine htq 7 (.p 1 0) [] ?_
           refine ha1 8 ?_
           refine hi (fun γ0 δ hm => ?_)
           refine gs [(26, .p 1 0), (25, .v (.slice y54.1 l55.length y54.2)), (4, vi (w64 (s25.2.1 + t45.1))), (5, vi s25.1), (3, .p 1 0), (2, .p 0 0), (0, .q p0 0)] [(29, [.slice none 0 0]), (29, (eStore (Store.mk l55) y54))] (fun δ2 => ?_)
           refine gd hm [4, 5, 3, 2, 0] [] ?_
           exact hd y54 [4, 5, 3, 2, 0] [0, 1] 2
     refine bn (nt (qr (oN 3 [(5, vi (w64 (s25.1 + 1)))] [4, 3, 2, 0] ?_)))
     exact oe (ct h57 (y58.1, y58.2) [5, 4, 3, 2, 0] [0, 0] 2)
   refine qx (nx (nx (bh ?_)))
   have h59 := leafB hd34 h44 h30
   exact mp ((t38.2.1, t38.2.2, s25.2.2.2.2), (y26.1, y26.2)) h59 [3, 2, 0] [1, 0] 2
 have h37 := (congrFun hk32 _).symm.trans h37p
 refine nt (qs (qr (oB 2 [] [2, 0] [(29, (eStore (Store.mk y36.1.2.2) y36.2)), (29, (eStore (Store.mk y36.1.2.2) y36.2))] ?_)))
 refine oe (nt (qe (rt [vStore (Store.mk y36.1.2.2) y36.2] (fun γ w hs => ?_))))
 rw [← sI h37]
 exact hs.curPost hg y36.2 (is := [1, 0]) rfl

theorem c_spec_l07Series {W : World} {xb0 : List U8} {xi0 xh0 : Int} {p0 ca0 : Option Addr} {cc0 : Nat} {r : Series × Int × Int} (h : spec_l07Series xb0 xi0 xh0 = some r) (hv0_0 : SlView W xb0 ca0 cc0) :
    GivesC Tryz.prog 138 113 #[(SV.q p0 0).den []] W (CurD.mk xb0 xi0 xh0) p0 ca0 cc0 (CurD.mk xb0 r.2.1 r.2.2) (fun y : AC => vSeries r.1 y) (fun y => [SlRes 52 r.1.Points y.1 y.2]) := by
 unfold spec_l07Series at h
 refine enterC [.q p0 0] (args := [(SV.q p0 0).den []]) hv0_0 (by kernel_rfl) (by kernel_rfl) Tryz.func113 rfl Tryz.ntmps113 (by kernel_rfl) (fun g hg hs0 => ?_)
 refine qs (qr (oB 1 [(2, .p 0 0)] [0] [(32, [.slice none 0 0])] ?_))
 refine oe (nt (qs (qr (oB 3 [(3, .p 1 0)] [2, 0] [(32, [.slice none 0 0]), (32, [.slice none 0 0])] ?_))))
 refine oe (nt (qs (qr (oN 1 [(4, vi 0)] [3, 2, 0] ?_))))
 refine oe (nt (qs (qs (qr (oN 1 [(5, vi 0)] [4, 3, 2, 0] ?_)))))
 refine oe (nt (JC_addnil 52 (List.nil (α := Point)) rfl ?_))
 obtain ⟨r24, hL25, h26⟩ := bS h
 obtain ⟨k27, hk28, h26⟩ := brkS h26
 refine JC_cutP (τ := (Int × Int × (List Point)) × (AC)) (fun y => k27 y.1 = some r) (fun y32 => [(3, .p 1 0), (2, .p 0 0), (0, .q p0 0)]) (fun y32 => [(32, [.slice none 0 0]), (32, (eSeries (Series.mk y32.1.2.2) y32.2))]) (fun y32 => [SlRes 52 y32.1.2.2 y32.2.1 y32.2.2, CurRes 138 (CurD.mk xb0 y32.1.1 y32.1.2.1) p0 ca0 cc0]) ?_ (fun y32 h33p => ?_)
 · refine qb (lp AC hL25 (fun s21 y22 => [(5, vi s21.1), (4, vi s21.2.1), (3, .p 1 0), (2, .p 0 0), (0, .q p0 0)]) (fun s21 y22 => [(32, [.slice none 0 0]), (32, (eSeries (Series.mk s21.2.2.2.2) y22))]) (fun s21 y22 => [SlRes 52 s21.2.2.2.2 y22.1 y22.2, CurRes 138 (CurD.mk xb0 s21.2.2.1 s21.2.2.2.1) p0 ca0 cc0]) (none, 0) [5, 4, 3, 2, 0] [0, 0] 2 (fun s21 y22 t23 h29 hd30 => ?_))
   refine qs (qs (qr (oN 2 [(8, .q p0 0), (7, vi s21.1)] [5, 4, 3, 2, 0] ?_)))
   refine or_ [1, 0] ?_
   obtain ⟨t34, h35, h36⟩ := bS h29
   refine JO_callC rfl (by kernel_rfl) (f := 50) (args := fun γ => #[(SV.q p0 0).den [], .int .i64 10]) (fun γ => by kernel_rfl) (x0 := CurD.mk xb0 s21.2.2.1 s21.2.2.2.1) (x1 := CurD.mk xb0 t34.2.1 t34.2.2) (Rr := [SlRes 52 s21.2.2.2.2 y22.1 y22.2]) rfl hs0 (fun γ w hs => (by have vv := c_spec_l01Below (p0 := p0) (W := w) h35 (hs0.kept hs.kept); exact vv)) (fun (y37 : Unit) => [(9, vi t34.1), (8, .q p0 0), (7, vi s21.1), (5, vi s21.1), (4, vi s21.2.1), (3, .p 1 0), (2, .p 0 0), (0, .q p0 0)]) (fun y37 => by kernel_rfl) (fun y37 => ?_)
   refine oN 1 [(10, vb (decide (s21.1 < t34.1)))] [5, 4, 3, 2, 0] ?_
   refine oe (nt (cC h36 (fun h39 => ?_) (fun h40 => ?_)))
   · refine qk (nt (qs (qb (qs (qr (oN 2 [(14, .q p0 0), (13, vi s21.2.1)] [5, 3, 2, 0] ?_))))))
     obtain ⟨t41, h42, h43⟩ := bS h39
     refine JO_callC rfl (by kernel_rfl) (f := 50) (args := fun γ => #[(SV.q p0 0).den [], .int .i64 12]) (fun γ => by kernel_rfl) (x0 := CurD.mk xb0 t34.2.1 t34.2.2) (x1 := CurD.mk xb0 t41.2.1 t41.2.2) (Rr := [SlRes 52 s21.2.2.2.2 y22.1 y22.2]) rfl hs0 (fun γ w hs => (by have vv := c_spec_l01Below (p0 := p0) (W := w) h42 (hs0.kept hs.kept); exact vv)) (fun (y44 : Unit) => [(15, vi t41.1), (14, .q p0 0), (13, vi s21.2.1), (5, vi s21.1), (3, .p 1 0), (2, .p 0 0), (0, .q p0 0)]) (fun y44 => by kernel_rfl) (fun y44 => ?_)
     refine oN 2 [(4, vi (w64 (s21.2.1 + t41.1)))] [5, 3, 2, 0] ?_
     refine oe (nt ?_)
     obtain ⟨t45, h46, h47⟩ := bS h43
     obtain ⟨t49, h50, h51⟩ := bS h47
     obtain ⟨l55, hm56, h57⟩ := bS h51
     refine JC_cut (τ := AC) (fun y58 => [(4, vi (w64 (s21.2.1 + t41.1))), (5, vi s21.1), (3, .p 1 0), (2, .p 0 0), (0, .q p0 0)]) (fun y58 => [(32, [.slice none 0 0]), (32, (eSeries (Series.mk l55) y58))]) (fun y58 => [SlRes 52 l55 y58.1 y58.2, CurRes 138 (CurD.mk xb0 t49.2.1 t49.2.2) p0 ca0 cc0]) ?_ (fun y58 => ?_)
     · refine jw [4, 5, 3, 2, 0] [0, 0] ?_
       refine JC_heldN (ks := [0]) (Rk := []) 15 (by kernel_rfl) (by kernel_rfl) ?_
       refine htq 0 (.p 1 0) [] ?_
       refine htq 2 (.q p0 0) [] ?_
       refine htq 3 (vi (w64 (s21.2.1 + t41.1))) [] ?_
       refine htq 4 (vi (w64 ((w64 (s21.2.1 + t41.1)) + 1))) [] ?_
       refine hk [21, 19, 17, 4, 5, 3, 2, 0] ?_
       refine htq 6 (vi (w64 (s21.2.1 + t41.1))) [] ?_
       refine htq 7 (.q p0 0) [] ?_
       refine ha2 1 5 ?_ ?_
       · refine hi (fun γ0 δ hm => ?_)
         refine gs [(18, .v (.slice y22.1 s21.2.2.2.2.length y22.2)), (24, .q p0 0), (23, vi (w64 (s21.2.1 + t41.1))), (21, vi (w64 ((w64 (s21.2.1 + t41.1)) + 1))), (19, .q p0 0), (17, .p 1 0), (4, vi (w64 (s21.2.1 + t41.1))), (5, vi s21.1), (3, .p 1 0), (2, .p 0 0), (0, .q p0 0)] [(32, [.slice none 0 0]), (32, (eSeries (Series.mk s21.2.2.2.2) y22))] (fun δ2 => ?_)
         refine gd hm [18, 24, 23, 21, 19, 4, 5, 3, 2, 0] [] ?_
         refine ha1 5 ?_
         refine hi (fun γ0 δ hm => ?_)
         refine JG_callC (by kernel_rfl) (f := 50) (args := #[(SV.q p0 0).den [], .int .i64 (w64 ((w64 (s21.2.1 + t41.1)) + 1))]) (by kernel_rfl) (x0 := CurD.mk xb0 t41.2.1 t41.2.2) (x1 := CurD.mk xb0 t45.2.1 t45.2.2) (Rr := [SlRes 52 s21.2.2.2.2 y22.1 y22.2]) rfl hs0 (fun w hs => (by have vv := c_spec_l01Below (p0 := p0) (W := w) h46 (hs0.kept hs.kept); exact vv)) (fun (y48 : Unit) => [(22, vi t45.1), (18, .v (.slice y22.1 s21.2.2.2.2.length y22.2)), (24, .q p0 0), (23, vi (w64 (s21.2.1 + t41.1))), (21, vi (w64 ((w64 (s21.2.1 + t41.1)) + 1))), (19, .q p0 0), (4, vi (w64 (s21.2.1 + t41.1))), (5, vi s21.1), (3, .p 1 0), (2, .p 0 0), (0, .q p0 0)]) (fun y48 => by kernel_rfl) (fun y48 => ?_)
         refine gn hm [22, 18, 24, 23, 4, 5, 3, 2, 0] [] ?_
         refine ha1 8 ?_
         refine hi (fun γ0 δ hm => ?_)
         refine JG_callC (by kernel_rfl) (f := 50) (args := #[(SV.q p0 0).den [], .int .i64 4000]) (by kernel_rfl) (x0 := CurD.mk xb0 t45.2.1 t45.2.2) (x1 := CurD.mk xb0 t49.2.1 t49.2.2) (Rr := [SlRes 52 s21.2.2.2.2 y22.1 y22.2]) rfl hs0 (fun w hs => (by have vv := c_spec_l01Below (p0 := p0) (W := w) h50 (hs0.kept hs.kept); exact vv)) (fun (y52 : Unit) => [(25, vi t49.1), (22, vi t45.1), (18, .v (.slice y22.1 s21.2.2.2.2.length y22.2)), (24, .q p0 0), (23, vi (w64 (s21.2.1 + t41.1))), (4, vi (w64 (s21.2.1 + t41.1))), (5, vi s21.1), (3, .p 1 0), (2, .p 0 0), (0, .q p0 0)]) (fun y52 => by kernel_rfl) (fun y52 => ?_)
         refine gn hm [25, 22, 18, 23, 4, 5, 3, 2, 0] [] ?_
         refine htq 9 (vi (w64 (9000 + t49.1))) [] ?_
         refine hk [26, 22, 18, 23, 4, 5, 3, 2, 0] ?_
         refine htq 10 (.v (vPoint (Point.mk t45.1 (w64 (s21.2.1 + t41.1)) (w64 (9000 + t49.1))))) [] ?_
         refine hk [27, 18, 4, 5, 3, 2, 0] ?_
         refine ha1 11 ?_
         refine hi (fun γ0 δ hm => ?_)
         refine gb [] [CurRes 138 (CurD.mk xb0 t49.2.1 t49.2.2) p0 ca0 cc0, SlRes 52 s21.2.2.2.2 y22.1 y22.2] 52 1 [.int .i64 t45.1, .int .i64 (w64 (s21.2.1 + t41.1)), .int .i64 (w64 (9000 + t49.1))] ([Point.mk t45.1 (w64 (s21.2.1 + t41.1)) (w64 (9000 + t49.1))] : List Point) (own_flat (by kernel_rfl)) (fun y53 => ?_)
         refine gn hm [28, 18, 4, 5, 3, 2, 0] [] ?_
         refine ha1 12 ?_
         refine hr_ [2, 0, 0] ?_
         refine hi (fun γ0 δ hm => ?_)
         refine ga 30 y53.2 Tryz.t52 (vPoint (Point.mk 0 0 0)) (fun w hs => ⟨y53.2, (hs.view 1 rfl)⟩) hm56 (fun y54 => ?_)
         refine gn hm [29, 4, 5, 3, 2, 0] [] ?_
         refine htq 13 (.p 1 0) [] ?_
         refine ha1 14 ?_
         refine hi (fun γ0 δ hm => ?_)
         refine gs [(30, .p 1 0), (29, .v (.slice y54.1 l55.length y54.2)), (4, vi (w64 (s21.2.1 + t41.1))), (5, vi s21.1), (3, .p 1 0), (2, .p 0 0), (0, .q p0 0)] [(32, [.slice none 0 0]), (32, (eSeries (Series.mk l55) y54))] (fun δ2 => ?_)
         refine gd hm [4, 5, 3, 2, 0] [] ?_
         exact hd y54 [4, 5, 3, 2, 0] [0, 1] 2
       · refine hi (fun γ0 δ hm => ?_)
         refine JG_callC (by kernel_rfl) (f := 50) (args := #[(SV.q p0 0).den [], .int .i64 (w64 ((w64 (s21.2.1 + t41.1)) + 1))]) (by kernel_rfl) (x0 := CurD.mk xb0 t41.2.1 t41.2.2) (x1 := CurD.mk xb0 t45.2.1 t45.2.2) (Rr := [SlRes 52 s21.2.2.2.2 y22.1 y22.2]) rfl hs0 (fun w hs => (by have vv := c_spec_l01Below (p0 := p0) (W := w) h46 (hs0.kept hs.kept); exact vv)) (fun (y48 : Unit) => [(22, vi t45.1), (24, .q p0 0), (23, vi (w64 (s21.2.1 + t41.1))), (21, vi (w64 ((w64 (s21.2.1 + t41.1)) + 1))), (19, .q p0 0), (17, .p 1 0), (4, vi (w64 (s21.2.1 + t41.1))), (5, vi s21.1), (3, .p 1 0), (2, .p 0 0), (0, .q p0 0)]) (fun y48 => by kernel_rfl) (fun y48 => ?_)
         refine gn hm [22, 24, 23, 17, 4, 5, 3, 2, 0] [] ?_
         refine ha2 1 8 ?_ ?_
         · refine hi (fun γ0 δ hm => ?_)
           refine gs [(18, .v (.slice y22.1 s21.2.2.2.2.length y22.2)), (22, vi t45.1), (24, .q p0 0), (23, vi (w64 (s21.2.1 + t41.1))), (17, .p 1 0), (4, vi (w64 (s21.2.1 + t41.1))), (5, vi s21.1), (3, .p 1 0), (2, .p 0 0), (0, .q p0 0)] [(32, [.slice none 0 0]), (32, (eSeries (Series.mk s21.2.2.2.2) y22))] (fun δ2 => ?_)
           refine gd hm [18, 22, 24, 23, 4, 5, 3, 2, 0] [] ?_
           refine ha1 8 ?_
           refine hi (fun γ0 δ hm => ?_)
           refine JG_callC (by kernel_rfl) (f := 50) (args := #[(SV.q p0 0).den [], .int .i64 4000]) (by kernel_rfl) (x0 := CurD.mk xb0 t45.2.1 t45.2.2) (x1 := CurD.mk xb0 t49.2.1 t49.2.2) (Rr := [SlRes 52 s21.2.2.2.2 y22.1 y22.2]) rfl hs0 (fun w hs => (by have vv := c_spec_l01Below (p0 := p0) (W := w) h50 (hs0.kept hs.kept); exact vv)) (fun (y52 : Unit) => [(25, vi t49.1), (18, .v (.slice y22.1 s21.2.2.2.2.length y22.2)), (22, vi t45.1), (24, .q p0 0), (23, vi (w64 (s21.2.1 + t41.1))), (4, vi (w64 (s21.2.1 + t41.1))), (5, vi s21.1), (3, .p 1 0), (2, .p 0 0), (0, .q p0 0)]) (fun y52 => by kernel_rfl) (fun y52 => ?_)
           refine gn hm [25, 18, 22, 23, 4, 5, 3, 2, 0] [] ?_
           refine htq 9 (vi (w64 (9000 + t49.1))) [] ?_
           refine hk [26, 18, 22, 23, 4, 5, 3, 2, 0] ?_
           refine htq 10 (.v (vPoint (Point.mk t45.1 (w64 (s21.2.1 + t41.1)) (w64 (9000 + t49.1))))) [] ?_
           refine hk [27, 18, 4, 5, 3, 2, 0] ?_
           refine ha1 11 ?_
           refine hi (fun γ0 δ hm => ?_)
           refine gb [] [CurRes 138 (CurD.mk xb0 t49.2.1 t49.2.2) p0 ca0 cc0, SlRes 52 s21.2.2.2.2 y22.1 y22.2] 52 1 [.int .i64 t45.1, .int .i64 (w64 (s21.2.1 + t41.1)), .int .i64 (w64 (9000 + t49.1))] ([Point.mk t45.1 (w64 (s21.2.1 + t41.1)) (w64 (9000 + t49.1))] : List Point) (own_flat (by kernel_rfl)) (fun y53 => ?_)
           refine gn hm [28, 18, 4, 5, 3, 2, 0] [] ?_
           refine ha1 12 ?_
           refine hr_ [2, 0, 0] ?_
           refine hi (fun γ0 δ hm => ?_)
           refine ga 30 y53.2 Tryz.t52 (vPoint (Point.mk 0 0 0)) (fun w hs => ⟨y53.2, (hs.view 1 rfl)⟩) hm56 (fun y54 => ?_)
           refine gn hm [29, 4, 5, 3, 2, 0] [] ?_
           refine htq 13 (.p 1 0) [] ?_
           refine ha1 14 ?_
           refine hi (fun γ0 δ hm => ?_)
           refine gs [(30, .p 1 0), (29, .v (.slice y54.1 l55.length y54.2)), (4, vi (w64 (s21.2.1 + t41.1))), (5, vi s21.1), (3, .p 1 0), (2, .p 0 0), (0, .q p0 0)] [(32, [.slice none 0 0]), (32, (eSeries (Series.mk l55) y54))] (fun δ2 => ?_)
           refine gd hm [4, 5, 3, 2, 0] [] ?_
           exact hd y54 [4, 5, 3, 2, 0] [0, 1] 2
         · refine hi (fun γ0 δ hm => ?_)
           refine JG_callC (by kernel_rfl) (f := 50) (args := #[(SV.q p0 0).den [], .int .i64 4000]) (by kernel_rfl) (x0 := CurD.mk xb0 t45.2.1 t45.2.2) (x1 := CurD.mk xb0 t49.2.1 t49.2.2) (Rr := [SlRes 52 s21.2.2.2.2 y22.1 y22.2]) rfl hs0 (fun w hs => (by have vv := c_spec_l01Below (p0 := p0) (W := w) h50 (hs0.kept hs.kept); exact vv)) (fun (y52 : Unit) => [(25, vi t49.1), (22, vi t45.1), (24, .q p0 0), (23, vi (w64 (s21.2.1 + t41.1))), (17, .p 1 0), (4, vi (w64 (s21.2.1 + t41.1))), (5, vi s21.1), (3, .p 1 0), (2, .p 0 0), (0, .q p0 0)]) (fun y52 => by kernel_rfl) (fun y52 => ?_)
           refine gn hm [25, 22, 23, 17, 4, 5, 3, 2, 0] [] ?_
           refine htq 9 (vi (w64 (9000 + t49.1))) [] ?_
           refine hk [26, 22, 23, 17, 4, 5, 3, 2, 0] ?_
           refine htq 10 (.v (vPoint (Point.mk t45.1 (w64 (s21.2.1 + t41.1)) (w64 (9000 + t49.1))))) [] ?_
           refine hk [27, 17, 4, 5, 3, 2, 0] ?_
           refine ha2 1 11 ?_ ?_
           · refine hi (fun γ0 δ hm => ?_)
             refine gs [(18, .v (.slice y22.1 s21.2.2.2.2.length y22.2)), (27, .v (vPoint (Point.mk t45.1 (w64 (s21.2.1 + t41.1)) (w64 (9000 + t49.1))))), (17, .p 1 0), (4, vi (w64 (s21.2.1 + t41.1))), (5, vi s21.1), (3, .p 1 0), (2, .p 0 0), (0, .q p0 0)] [(32, [.slice none 0 0]), (32, (eSeries (Series.mk s21.2.2.2.2) y22))] (fun δ2 => ?_)
             refine gd hm [18, 27, 4, 5, 3, 2, 0] [] ?_
             refine ha1 11 ?_
             refine hi (fun γ0 δ hm => ?_)
             refine gb [] [CurRes 138 (CurD.mk xb0 t49.2.1 t49.2.2) p0 ca0 cc0, SlRes 52 s21.2.2.2.2 y22.1 y22.2] 52 1 [.int .i64 t45.1, .int .i64 (w64 (s21.2.1 + t41.1)), .int .i64 (w64 (9000 + t49.1))] ([Point.mk t45.1 (w64 (s21.2.1 + t41.1)) (w64 (9000 + t49.1))] : List Point) (own_flat (by kernel_rfl)) (fun y53 => ?_)
             refine gn hm [28, 18, 4, 5, 3, 2, 0] [] ?_
             refine ha1 12 ?_
             refine hr_ [2, 0, 0] ?_
             refine hi (fun γ0 δ hm => ?_)
             refine ga 30 y53.2 Tryz.t52 (vPoint (Point.mk 0 0 0)) (fun w hs => ⟨y53.2, (hs.view 1 rfl)⟩) hm56 (fun y54 => ?_)
             refine gn hm [29, 4, 5, 3, 2, 0] [] ?_
             refine htq 13 (.p 1 0) [] ?_
             refine ha1 14 ?_
             refine hi (fun γ0 δ hm => ?_)
             refine gs [(30, .p 1 0), (29, .v (.slice y54.1 l55.length y54.2)), (4, vi (w64 (s21.2.1 + t41.1))), (5, vi s21.1), (3, .p 1 0), (2, .p 0 0), (0, .q p0 0)] [(32, [.slice none 0 0]), (32, (eSeries (Series.mk l55) y54))] (fun δ2 => ?_)
             refine gd hm [4, 5, 3, 2, 0] [] ?_
             exact hd y54 [4, 5, 3, 2, 0] [0, 1] 2
           · refine hi (fun γ0 δ hm => ?_)
             refine gb [] [CurRes 138 (CurD.mk xb0 t49.2.1 t49.2.2) p0 ca0 cc0, SlRes 52 s21.2.2.2.2 y22.1 y22.2] 52 1 [.int .i64 t45.1, .int .i64 (w64 (s21.2.1 + t41.1)), .int .i64 (w64 (9000 + t49.1))] ([Point.mk t45.1 (w64 (s21.2.1 + t41.1)) (w64 (9000 + t49.1))] : List Point) (own_flat (by kernel_rfl)) (fun y53 => ?_)
             refine gn hm [28, 17, 4, 5, 3, 2, 0] [] ?_
             refine ha1 1 ?_
             refine hi (fun γ0 δ hm => ?_)
             refine gs [(18, .v (.slice y22.1 s21.2.2.2.2.length y22.2)), (28, .v (.slice y53.1 ([Point.mk t45.1 (w64 (s21.2.1 + t41.1)) (w64 (9000 + t49.1))] : List Point).length y53.2)), (17, .p 1 0), (4, vi (w64 (s21.2.1 + t41.1))), (5, vi s21.1), (3, .p 1 0), (2, .p 0 0), (0, .q p0 0)] [(32, [.slice none 0 0]), (32, (eSeries (Series.mk s21.2.2.2.2) y22))] (fun δ2 => ?_)
             refine gd hm [18, 28, 4, 5, 3, 2, 0] [] ?_
             refine ha1 12 ?_
             refine hr_ [2, 0, 0] ?_
             refine hi (fun γ0 δ hm => ?_)
             refine ga 30 y53.2 Tryz.t52 (vPoint (Point.mk 0 0 0)) (fun w hs => ⟨y53.2, (hs.view 1 rfl)⟩) hm56 (fun y54 => ?_)
             refine gn hm [29, 4, 5, 3, 2, 0] [] ?_
             refine htq 13 (.p 1 0) [] ?_
             refine ha1 14 ?_
             refine hi (fun γ0 δ hm => ?_)
             refine gs [(30, .p 1 0), (29, .v (.slice y54.1 l55.length y54.2)), (4, vi (w64 (s21.2.1 + t41.1))), (5, vi s21.1), (3, .p 1 0), (2, .p 0 0), (0, .q p0 0)] [(32, [.slice none 0 0]), (32, (eSeries (Series.mk l55) y54))] (fun δ2 => ?_)
             refine gd hm [4, 5, 3, 2, 0] [] ?_
             exact hd y54 [4, 5, 3, 2, 0] [0, 1] 2
     refine bn (nt (qr (oN 3 [(5, vi (w64 (s21.1 + 1)))] [4, 3, 2, 0] ?_)))
     exact oe (ct h57 (y58.1, y58.2) [5, 4, 3, 2, 0] [0, 0] 2)
   refine qx (nx (nx (bh ?_)))
   have h59 := leafB hd30 h40 h26
   exact mp ((t34.2.1, t34.2.2, s21.2.2.2.2), (y22.1, y22.2)) h59 [3, 2, 0] [1, 0] 2
 have h33 := (congrFun hk28 _).symm.trans h33p
 refine nt (qs (qr (oB 2 [] [2, 0] [(32, (eSeries (Series.mk y32.1.2.2) y32.2)), (32, (eSeries (Series.mk y32.1.2.2) y32.2))] ?_)))
 refine oe (nt (qe (rt [vSeries (Series.mk y32.1.2.2) y32.2] (fun γ w hs => ?_))))
 rw [← sI h33]
 exact hs.curPost hg y32.2 (is := [1, 0]) rfl

theorem c_spec_l01PickInt {W : World} {xb0 : List U8} {xi0 xh0 : Int} {p0 ca0 : Option Addr} {cc0 : Nat} {x1 : List Int} {a1_0 : Option Addr} {c1_0 : Nat} {r : Int × Int × Int} (h : spec_l01PickInt xb0 xi0 xh0 x1 = some r) (hv0_0 : SlView W xb0 ca0 cc0) (hv1_0 : Seen (fun k => p0 = some ⟨k, 0, none⟩) W x1 a1_0 c1_0) :
    GivesC Tryz.prog 138 175 #[(SV.q p0 0).den [], .slice a1_0 x1.length c1_0] W (CurD.mk xb0 xi0 xh0) p0 ca0 cc0 (CurD.mk xb0 r.2.1 r.2.2) (fun y : Unit => .int .i64 r.1) (fun y => []) := by
 unfold spec_l01PickInt at h
 refine enterC [.q p0 0, .v (.slice a1_0 x1.length c1_0)] (args := [(SV.q p0 0).den [], .slice a1_0 x1.length c1_0]) hv0_0 (by kernel_rfl) (by kernel_rfl) Tryz.func175 rfl Tryz.ntmps175 (by kernel_rfl) (fun g hg hs0 => ?_)
 refine qs (qr (oN 1 [] [0, 1] ?_))
 refine oe (nt (qs (qr (oN 4 [(8, vi (x1.length : Int)), (6, .q p0 0), (5, .v (.slice a1_0 x1.length c1_0))] [0] ?_))))
 obtain ⟨t21, h22, h23⟩ := bS h
 refine JO_callC rfl (by kernel_rfl) (f := 50) (args := fun γ => #[(SV.q p0 0).den [], .int .i64 (x1.length : Int)]) (fun γ => by kernel_rfl) (x0 := CurD.mk xb0 xi0 xh0) (x1 := CurD.mk xb0 t21.2.1 t21.2.2) (Rr := []) rfl hs0 (fun γ w hs => (by have vv := c_spec_l01Below (p0 := p0) (W := w) h22 (hs0.kept hs.kept); exact vv)) (fun (y24 : Unit) => [(9, vi t21.1), (8, vi (x1.length : Int)), (6, .q p0 0), (5, .v (.slice a1_0 x1.length c1_0)), (0, .q p0 0)]) (fun y24 => by kernel_rfl) (fun y24 => ?_)
 obtain ⟨x25, hx26, h27⟩ := bS h23
 refine oi 1 (fun γ w hs => ((hv1_0.turn hg).kept hs.kept)) hx26 ?_
 refine ol 3 0 (.int .i64 x25) (fun γ w hs => ((hv1_0.turn hg).kept hs.kept).flatq hx26) ?_
 refine oN 1 [(4, vi x25)] [0] ?_
 refine oe (nt (qe (rt [.int .i64 x25] (fun γ w hs => ?_))))
 rw [← sI h27]
 exact hs.curPost hg () (is := [0]) rfl

theorem c_spec_l01Once {W : World} {xb0 : List U8} {xi0 xh0 : Int} {p0 ca0 : Option Addr} {cc0 : Nat} {x1 : Int} {r : Bool × Int × Int} (h : spec_l01Once xb0 xi0 xh0 x1 = some r) (hv0_0 : SlView W xb0 ca0 cc0) :
    GivesC Tryz.prog 138 117 #[(SV.q p0 0).den [], .int .i64 x1] W (CurD.mk xb0 xi0 xh0) p0 ca0 cc0 (CurD.mk xb0 r.2.1 r.2.2) (fun y : Unit => .bool r.1) (fun y => []) := by
 unfold spec_l01Once at h
 refine enterC [.q p0 0, vi x1] (args := [(SV.q p0 0).den [], .int .i64 x1]) hv0_0 (by kernel_rfl) (by kernel_rfl) Tryz.func117 rfl Tryz.ntmps117 (by kernel_rfl) (fun g hg hs0 => ?_)
 refine qs (qr (oN 1 [] [0, 1] ?_))
 refine oe (nt (qs (qr (oN 2 [(6, vi x1), (5, .q p0 0)] [0] ?_))))
 obtain ⟨t21, h22, h23⟩ := bS h
 refine JO_callC rfl (by kernel_rfl) (f := 50) (args := fun γ => #[(SV.q p0 0).den [], .int .i64 x1]) (fun γ => by kernel_rfl) (x0 := CurD.mk xb0 xi0 xh0) (x1 := CurD.mk xb0 t21.2.1 t21.2.2) (Rr := []) rfl hs0 (fun γ w hs => (by have vv := c_spec_l01Below (p0 := p0) (W := w) h22 (hs0.kept hs.kept); exact vv)) (fun (y24 : Unit) => [(7, vi t21.1), (6, vi x1), (5, .q p0 0), (0, .q p0 0)]) (fun y24 => by kernel_rfl) (fun y24 => ?_)
 refine oN 2 [(4, vb (t21.1 == 0))] [0] ?_
 refine oe (nt (qe (rt [.bool (t21.1 == 0)] (fun γ w hs => ?_))))
 rw [← sI h23]
 exact hs.curPost hg () (is := [0]) rfl

theorem c_spec_l11Spells {W : World} {xb0 : List U8} {xi0 xh0 : Int} {p0 ca0 : Option Addr} {cc0 : Nat} {r : (List Spell) × Int × Int} (h : spec_l11Spells xb0 xi0 xh0 = some r) (hv0_0 : SlView W xb0 ca0 cc0) :
    GivesC Tryz.prog 138 171 #[(SV.q p0 0).den []] W (CurD.mk xb0 xi0 xh0) p0 ca0 cc0 (CurD.mk xb0 r.2.1 r.2.2) (fun y : AC => .slice y.1 r.1.length y.2) (fun y => [SlRes 156 r.1 y.1 y.2]) := by
 unfold spec_l11Spells at h
 refine enterC [.q p0 0] (args := [(SV.q p0 0).den []]) hv0_0 (by kernel_rfl) (by kernel_rfl) Tryz.func171 rfl Tryz.ntmps171 (by kernel_rfl) (fun g hg hs0 => ?_)
 refine qs (qr (oN 1 [] [0] ?_))
 refine oe (nt (qs (qr (ob [] [CurRes 138 (CurD.mk xb0 xi0 xh0) p0 ca0 cc0] 156 0 [] ([] : List Spell) (own_flat (by kernel_rfl)) (fun y21 => ?_)))))
 refine oN 1 [(3, .v (.slice y21.1 ([] : List Spell).length y21.2))] [0] ?_
 refine oe (nt (qs (qr (oN 1 [(8, .q p0 0)] [3, 0] ?_))))
 refine or_ [1, 0] ?_
 obtain ⟨t23, h24, h25⟩ := bS h
 refine JO_callC rfl (by kernel_rfl) (f := 50) (args := fun γ => #[(SV.q p0 0).den [], .int .i64 20]) (fun γ => by kernel_rfl) (x0 := CurD.mk xb0 xi0 xh0) (x1 := CurD.mk xb0 t23.2.1 t23.2.2) (Rr := [SlRes 156 ([] : List Spell) y21.1 y21.2]) rfl hs0 (fun γ w hs => (by have vv := c_spec_l01Below (p0 := p0) (W := w) h24 (hs0.kept hs.kept); exact vv)) (fun (y26 : Unit) => [(9, vi t23.1), (8, .q p0 0), (3, .v (.slice y21.1 ([] : List Spell).length y21.2)), (0, .q p0 0)]) (fun y26 => by kernel_rfl) (fun y26 => ?_)
 refine oN 1 [(4, vi t23.1)] [3, 0] ?_
 refine oe (nt (qs (qs (qr (oN 1 [(5, vi 0)] [4, 3, 0] ?_)))))
 refine oe (nt ?_)
 obtain ⟨r30, hL31, h32⟩ := bS h25
 obtain ⟨k33, hk34, h32⟩ := brkS h32
 refine JC_cutP (τ := ((List Spell) × Int × Int) × (AC)) (fun y => k33 y.1 = some r) (fun y38 => [(3, .v (.slice y38.2.1 y38.1.1.length y38.2.2)), (0, .q p0 0)]) (fun y38 => []) (fun y38 => [SlRes 156 y38.1.1 y38.2.1 y38.2.2, CurRes 138 (CurD.mk xb0 y38.1.2.1 y38.1.2.2) p0 ca0 cc0]) ?_ (fun y38 h39p => ?_)
 · refine qb (lp AC hL31 (fun s27 y28 => [(5, vi s27.1), (4, vi s27.2.1), (3, .v (.slice y28.1 s27.2.2.1.length y28.2)), (0, .q p0 0)]) (fun s27 y28 => []) (fun s27 y28 => [SlRes 156 s27.2.2.1 y28.1 y28.2, CurRes 138 (CurD.mk xb0 s27.2.2.2.1 s27.2.2.2.2) p0 ca0 cc0]) (y21.1, y21.2) [5, 4, 3, 0] [1, 0] 0 (fun s27 y28 t29 h35 hd36 => ?_))
   refine qs (qs (qr (oN 2 [(11, .q p0 0), (10, vi s27.1)] [5, 4, 3, 0] ?_)))
   refine or_ [1, 0] ?_
   obtain ⟨t40, h41, h42⟩ := bS h35
   refine JO_callC rfl (by kernel_rfl) (f := 50) (args := fun γ => #[(SV.q p0 0).den [], .int .i64 7]) (fun γ => by kernel_rfl) (x0 := CurD.mk xb0 s27.2.2.2.1 s27.2.2.2.2) (x1 := CurD.mk xb0 t40.2.1 t40.2.2) (Rr := [SlRes 156 s27.2.2.1 y28.1 y28.2]) rfl hs0 (fun γ w hs => (by have vv := c_spec_l01Below (p0 := p0) (W := w) h41 (hs0.kept hs.kept); exact vv)) (fun (y43 : Unit) => [(12, vi t40.1), (11, .q p0 0), (10, vi s27.1), (5, vi s27.1), (4, vi s27.2.1), (3, .v (.slice y28.1 s27.2.2.1.length y28.2)), (0, .q p0 0)]) (fun y43 => by kernel_rfl) (fun y43 => ?_)
   refine oN 1 [(13, vb (decide (s27.1 < t40.1)))] [5, 4, 3, 0] ?_
   refine oe (nt (cC h42 (fun h45 => ?_) (fun h46 => ?_)))
   · refine qk (nt (qs (qb (qs (qr (oN 2 [(17, .q p0 0), (16, vi s27.2.1)] [5, 3, 0] ?_))))))
     obtain ⟨t47, h48, h49⟩ := bS h45
     refine JO_callC rfl (by kernel_rfl) (f := 50) (args := fun γ => #[(SV.q p0 0).den [], .int .i64 8]) (fun γ => by kernel_rfl) (x0 := CurD.mk xb0 t40.2.1 t40.2.2) (x1 := CurD.mk xb0 t47.2.1 t47.2.2) (Rr := [SlRes 156 s27.2.2.1 y28.1 y28.2]) rfl hs0 (fun γ w hs => (by have vv := c_spec_l01Below (p0 := p0) (W := w) h48 (hs0.kept hs.kept); exact vv)) (fun (y50 : Unit) => [(18, vi t47.1), (17, .q p0 0), (16, vi s27.2.1), (5, vi s27.1), (3, .v (.slice y28.1 s27.2.2.1.length y28.2)), (0, .q p0 0)]) (fun y50 => by kernel_rfl) (fun y50 => ?_)
     refine oN 1 [(19, .q p0 0)] [18, 16, 5, 3, 0] ?_
     obtain ⟨t51, h52, h53⟩ := bS h49
     refine JO_callC rfl (by kernel_rfl) (f := 50) (args := fun γ => #[(SV.q p0 0).den [], .int .i64 2]) (fun γ => by kernel_rfl) (x0 := CurD.mk xb0 t47.2.1 t47.2.2) (x1 := CurD.mk xb0 t51.2.1 t51.2.2) (Rr := [SlRes 156 s27.2.2.1 y28.1 y28.2]) rfl hs0 (fun γ w hs => (by have vv := c_spec_l01Below (p0 := p0) (W := w) h52 (hs0.kept hs.kept); exact vv)) (fun (y54 : Unit) => [(20, vi t51.1), (19, .q p0 0), (18, vi t47.1), (16, vi s27.2.1), (5, vi s27.1), (3, .v (.slice y28.1 s27.2.2.1.length y28.2)), (0, .q p0 0)]) (fun y54 => by kernel_rfl) (fun y54 => ?_)
     refine oN 3 [(4, vi (w64 (s27.2.1 + (w64 (t47.1 * t51.1)))))] [5, 3, 0] ?_
     refine oe (nt (qs (qr (oN 3 [(25, .q p0 0), (24, vi (w64 ((w64 (s27.2.1 + (w64 (t47.1 * t51.1)))) + 1)))] [4, 5, 3, 0] ?_))))
     obtain ⟨t55, h56, h57⟩ := bS h53
     refine JO_callC rfl (by kernel_rfl) (f := 50) (args := fun γ => #[(SV.q p0 0).den [], .int .i64 30]) (fun γ => by kernel_rfl) (x0 := CurD.mk xb0 t51.2.1 t51.2.2) (x1 := CurD.mk xb0 t55.2.1 t55.2.2) (Rr := [SlRes 156 s27.2.2.1 y28.1 y28.2]) rfl hs0 (fun γ w hs => (by have vv := c_spec_l01Below (p0 := p0) (W := w) h56 (hs0.kept hs.kept); exact vv)) (fun (y58 : Unit) => [(26, vi t55.1), (25, .q p0 0), (24, vi (w64 ((w64 (s27.2.1 + (w64 (t47.1 * t51.1)))) + 1))), (4, vi (w64 (s27.2.1 + (w64 (t47.1 * t51.1))))), (5, vi s27.1), (3, .v (.slice y28.1 s27.2.2.1.length y28.2)), (0, .q p0 0)]) (fun y58 => by kernel_rfl) (fun y58 => ?_)
     refine oN 2 [(6, vi (w64 ((w64 ((w64 (s27.2.1 + (w64 (t47.1 * t51.1)))) + 1)) + t55.1)))] [4, 5, 3, 0] ?_
     refine oe (nt (qs (qr (oN 4 [(31, .q p0 0), (30, vi (w64 ((w64 ((w64 (s27.2.1 + (w64 (t47.1 * t51.1)))) + 1)) + t55.1))), (29, vi (w64 (s27.2.1 + (w64 (t47.1 * t51.1))))), (28, .v (.slice y28.1 s27.2.2.1.length y28.2))] [6, 5, 0] ?_))))
     refine ob [] [CurRes 138 (CurD.mk xb0 t55.2.1 t55.2.2) p0 ca0 cc0, SlRes 156 s27.2.2.1 y28.1 y28.2] 3 5 [.int .i64 100, .int .i64 100, .int .i64 50, .int .i64 80, .int .i64 1] ([100, 100, 50, 80, 1] : List Int) (own_flat (by kernel_rfl)) (fun y59 => ?_)
     refine or_ [1, 0, 0] ?_
     obtain ⟨t61, h62, h63⟩ := bS h57
     refine JO_callC rfl (by kernel_rfl) (f := 175) (args := fun γ => #[(SV.q p0 0).den [], .slice y59.1 ([100, 100, 50, 80, 1] : List Int).length y59.2]) (fun γ => by kernel_rfl) (x0 := CurD.mk xb0 t55.2.1 t55.2.2) (x1 := CurD.mk xb0 t61.2.1 t61.2.2) (Rr := [SlRes 3 ([100, 100, 50, 80, 1] : List Int) y59.1 y59.2, SlRes 156 s27.2.2.1 y28.1 y28.2]) rfl hs0 (fun γ w hs => (by have vv := c_spec_l01PickInt (p0 := p0) (W := w) h62 (hs0.kept hs.kept) (hs.seenR 0 1 rfl rfl rfl); exact vv)) (fun (y64 : Unit) => [(33, vi t61.1), (32, .v (.slice y59.1 ([100, 100, 50, 80, 1] : List Int).length y59.2)), (31, .q p0 0), (30, vi (w64 ((w64 ((w64 (s27.2.1 + (w64 (t47.1 * t51.1)))) + 1)) + t55.1))), (29, vi (w64 (s27.2.1 + (w64 (t47.1 * t51.1))))), (28, .v (.slice y28.1 s27.2.2.1.length y28.2)), (6, vi (w64 ((w64 ((w64 (s27.2.1 + (w64 (t47.1 * t51.1)))) + 1)) + t55.1))), (5, vi s27.1), (0, .q p0 0)]) (fun y64 => by kernel_rfl) (fun y64 => ?_)
     refine oN 1 [(34, .q p0 0)] [33, 30, 29, 28, 6, 5, 0] ?_
     obtain ⟨t65, h66, h67⟩ := bS h63
     refine JO_callC rfl (by kernel_rfl) (f := 117) (args := fun γ => #[(SV.q p0 0).den [], .int .i64 5]) (fun γ => by kernel_rfl) (x0 := CurD.mk xb0 t61.2.1 t61.2.2) (x1 := CurD.mk xb0 t65.2.1 t65.2.2) (Rr := [SlRes 3 ([100, 100, 50, 80, 1] : List Int) y59.1 y59.2, SlRes 156 s27.2.2.1 y28.1 y28.2]) rfl hs0 (fun γ w hs => (by have vv := c_spec_l01Once (p0 := p0) (W := w) h66 (hs0.kept hs.kept); exact vv)) (fun (y68 : Unit) => [(35, vb t65.1), (34, .q p0 0), (33, vi t61.1), (30, vi (w64 ((w64 ((w64 (s27.2.1 + (w64 (t47.1 * t51.1)))) + 1)) + t55.1))), (29, vi (w64 (s27.2.1 + (w64 (t47.1 * t51.1))))), (28, .v (.slice y28.1 s27.2.2.1.length y28.2)), (6, vi (w64 ((w64 ((w64 (s27.2.1 + (w64 (t47.1 * t51.1)))) + 1)) + t55.1))), (5, vi s27.1), (0, .q p0 0)]) (fun y68 => by kernel_rfl) (fun y68 => ?_)
     refine oN 1 [(36, .v (vSpell (Spell.mk (w64 (s27.2.1 + (w64 (t47.1 * t51.1)))) (w64 ((w64 ((w64 (s27.2.1 + (w64 (t47.1 * t51.1)))) + 1)) + t55.1)) t61.1 t65.1)))] [28, 6, 5, 0] ?_
     refine ob [] [CurRes 138 (CurD.mk xb0 t65.2.1 t65.2.2) p0 ca0 cc0, SlRes 3 ([100, 100, 50, 80, 1] : List Int) y59.1 y59.2, SlRes 156 s27.2.2.1 y28.1 y28.2] 156 1 [.int .i64 (w64 (s27.2.1 + (w64 (t47.1 * t51.1)))), .int .i64 (w64 ((w64 ((w64 (s27.2.1 + (w64 (t47.1 * t51.1)))) + 1)) + t55.1)), .int .i64 t61.1, .bool t65.1] ([Spell.mk (w64 (s27.2.1 + (w64 (t47.1 * t51.1)))) (w64 ((w64 ((w64 (s27.2.1 + (w64 (t47.1 * t51.1)))) + 1)) + t55.1)) t61.1 t65.1] : List Spell) (own_flat (by kernel_rfl)) (fun y69 => ?_)
     refine or_ [3, 0, 0, 0] ?_
     obtain ⟨l72, hm73, h74⟩ := bS h67
     refine oa 33 y69.2 Tryz.t156 (vSpell (Spell.mk 0 0 0 false)) (fun γ w hs => ⟨y69.2, (hs.view 1 rfl)⟩) hm73 (fun y71 => ?_)
     refine oN 1 [(3, .v (.slice y71.1 l72.length y71.2))] [6, 5, 0] ?_
     refine oe (nt (qr (oN 2 [(4, vi (w64 ((w64 ((w64 (s27.2.1 + (w64 (t47.1 * t51.1)))) + 1)) + t55.1)))] [3, 5, 0] ?_)))
     refine oe (bn (nt (qr (oN 3 [(5, vi (w64 (s27.1 + 1)))] [4, 3, 0] ?_))))
     exact oe (ct h74 (y71.1, y71.2) [5, 4, 3, 0] [0, 1] 0)
   refine qx (nx (nx (bh ?_)))
   have h75 := leafB hd36 h46 h32
   exact mp ((s27.2.2.1, t40.2.1, t40.2.2), (y28.1, y28.2)) h75 [3, 0] [1, 0] 0
 have h39 := (congrFun hk34 _).symm.trans h39p
 refine nt (qs (qr (oN 2 [(2, .v (.slice y38.2.1 y38.1.1.length y38.2.2))] [0] ?_)))
 refine oe (nt (qe (rt [.slice y38.2.1 y38.1.1.length y38.2.2] (fun γ w hs => ?_))))
 rw [← sI h39]
 exact hs.curPost hg y38.2 (is := [1, 0]) rfl

theorem c_spec_l01In {W : World} {x0 : Int} {x1 : Int} {x2 : Int} {r : Bool} (h : spec_l01In x0 x1 x2 = some r)  :
    Gives0 Tryz.prog 120 #[.int .i64 x0, .int .i64 x1, .int .i64 x2] W (.bool r) := by
 unfold spec_l01In at h
 refine en Tryz.func120 Tryz.ntmps120 ?_
 refine qs (qr (oN 1 [] [0, 1, 2] ?_))
 refine oe (nt (qs ?_))
 obtain ⟨p21, hE22, h23⟩ := bS h
 refine JC_cut (τ := Unit) (fun _ => [(6, vb p21)]) (fun _ => []) (fun _ => []) ?_ (fun _ => ?_)
 · refine qr (oN 4 [(10, vb (decide (x0 ≥ x1)))] [0, 2] ?_)
   refine oS 10 hE22 (fun h25 => ?_) (fun h26 => ?_)
   · refine oN 5 [(6, vb (decide (x0 ≤ x2)))] [] ?_
     refine oe ?_
     obtain rfl := sI h25
     exact mt () [6] [] 0
   refine oN 5 [(6, vb false)] [] ?_
   refine oe ?_
   obtain rfl := sI h26
   exact mt () [6] [] 0
 refine nt (qe ?_)
 obtain rfl := sI h23
 exact re [.bool p21]

theorem c_spec_StatusAfter {W : World} {x0 : Int} {x1 : Int} {r : Int × Bool} (h : spec_StatusAfter x0 x1 = some r)  :
    Gives0 Tryz.prog 160 #[.int .i64 x0, .int .i64 x1] W (.tuple #[.int .i64 r.1, .bool r.2]) := by
 unfold spec_StatusAfter at h
 refine en Tryz.func160 Tryz.ntmps160 ?_
 refine qs (qr (oN 2 [] [0, 1] ?_))
 refine oe (nt (qs (qb (qs ?_))))
 obtain ⟨p21, hE22, h23⟩ := bS h
 refine JC_cut (τ := Unit) (fun _ => [(0, vi x0), (1, vi x1), (6, vb p21)]) (fun _ => []) (fun _ => []) ?_ (fun _ => ?_)
 · refine qr (oN 3 [(9, vb (x1 == 1))] [0, 1] ?_)
   refine oS 9 hE22 (fun h25 => ?_) (fun h26 => ?_)
   · refine oN 3 [(12, vb (x0 == 0))] [9, 0, 1] ?_
     refine oS 12 h25 (fun h28 => ?_) (fun h29 => ?_)
     · refine oN 5 [(6, vb true)] [0, 1] ?_
       refine oe ?_
       obtain rfl := sI h28
       exact mt () [0, 1, 6] [] 0
     refine oN 5 [(6, vb (x0 == 2))] [0, 1] ?_
     refine oe ?_
     obtain rfl := sI h29
     exact mt () [0, 1, 6] [] 0
   refine oN 8 [(6, vb false)] [0, 1] ?_
   refine oe ?_
   obtain rfl := sI h26
   exact mt () [0, 1, 6] [] 0
 refine nt (cC h23 (fun h65 => ?_) (fun h66 => ?_))
 · refine qs (qr (oN 2 [(5, vb true), (4, vi 1)] [] ?_))
   refine oe (nt (qe (br (nr ?_))))
   obtain rfl := sI h65
   exact re [.int .i64 1, .bool true]
 refine qs ?_
 obtain ⟨p67, hE68, h69⟩ := bS h66
 refine JC_cut (τ := Unit) (fun _ => [(0, vi x0), (1, vi x1), (17, vb p67)]) (fun _ => []) (fun _ => []) ?_ (fun _ => ?_)
 · refine qr (oN 3 [(20, vb (x1 == 2))] [0, 1] ?_)
   refine oS 20 hE68 (fun h71 => ?_) (fun h72 => ?_)
   · refine oN 4 [(17, vb (x0 == 1))] [0, 1] ?_
     refine oe ?_
     obtain rfl := sI h71
     exact mt () [0, 1, 17] [] 0
   refine oN 4 [(17, vb false)] [0, 1] ?_
   refine oe ?_
   obtain rfl := sI h72
   exact mt () [0, 1, 17] [] 0
 refine nt (cC h69 (fun h99 => ?_) (fun h100 => ?_))
 · refine qs (qr (oN 2 [(5, vb true), (4, vi 2)] [] ?_))
   refine oe (nt (qe (br (nr ?_))))
   obtain rfl := sI h99
   exact re [.int .i64 2, .bool true]
 refine qs ?_
 obtain ⟨p101, hE102, h103⟩ := bS h100
 refine JC_cut (τ := Unit) (fun _ => [(0, vi x0), (1, vi x1), (24, vb p101)]) (fun _ => []) (fun _ => []) ?_ (fun _ => ?_)
 · refine qr (oN 3 [(27, vb (x1 == 3))] [0, 1] ?_)
   refine oS 27 hE102 (fun h105 => ?_) (fun h106 => ?_)
   · refine oN 3 [(30, vb (x0 == 1))] [27, 0, 1] ?_
     refine oS 30 h105 (fun h108 => ?_) (fun h109 => ?_)
     · refine oN 5 [(24, vb true)] [0, 1] ?_
       refine oe ?_
       obtain rfl := sI h108
       exact mt () [0, 1, 24] [] 0
     refine oN 5 [(24, vb (x0 == 2))] [0, 1] ?_
     refine oe ?_
     obtain rfl := sI h109
     exact mt () [0, 1, 24] [] 0
   refine oN 8 [(24, vb false)] [0, 1] ?_
   refine oe ?_
   obtain rfl := sI h106
   exact mt () [0, 1, 24] [] 0
 refine nt (cC h103 (fun h124 => ?_) (fun h125 => ?_))
 · refine qs (qr (oN 2 [(5, vb true), (4, vi 3)] [] ?_))
   refine oe (nt (qe (br (nr ?_))))
   obtain rfl := sI h124
   exact re [.int .i64 3, .bool true]
 refine qs ?_
 obtain ⟨p126, hE127, h128⟩ := bS h125
 refine JC_cut (τ := Unit) (fun _ => [(0, vi x0), (35, vb p126)]) (fun _ => []) (fun _ => []) ?_ (fun _ => ?_)
 · refine qr (oN 3 [(38, vb (x1 == 4))] [0] ?_)
   refine oS 38 hE127 (fun h130 => ?_) (fun h131 => ?_)
   · refine oN 1 [(39, vi x0)] [38, 0] ?_
     obtain ⟨t132, h133, h134⟩ := bS h130
     refine k0 (fun γ w hs => c_spec_l01In h133) ?_
     refine oN 2 [(35, vb t132)] [0] ?_
     refine oe ?_
     obtain rfl := sI h134
     exact mt () [0, 35] [] 0
   refine oN 4 [(35, vb false)] [0] ?_
   refine oe ?_
   obtain rfl := sI h131
   exact mt () [0, 35] [] 0
 refine nt (cC h128 (fun h137 => ?_) (fun h138 => ?_))
 · refine qs (qr (oN 2 [(5, vb true), (4, vi 4)] [] ?_))
   refine oe (nt (qe (br (nr ?_))))
   obtain rfl := sI h137
   exact re [.int .i64 4, .bool true]
 refine qk (bn (nt (qs (qr (oN 3 [(5, vb false), (4, vi x0)] [] ?_)))))
 refine oe (nt (qe ?_))
 obtain rfl := sI h138
 exact re [.int .i64 x0, .bool false]

theorem c_spec_MonthOk {W : World} {x0 : Int} {r : Bool} (h : spec_MonthOk x0 = some r)  :
    Gives0 Tryz.prog 139 #[.int .i64 x0] W (.bool r) := by
 unfold spec_MonthOk at h
 refine en Tryz.func139 Tryz.ntmps139 ?_
 refine qs (qr (oN 1 [] [0] ?_))
 refine oe (nt (qs (qr (oN 1 [(3, vi x0)] [] ?_))))
 obtain ⟨t21, h22, h23⟩ := bS h
 refine k0 (fun γ w hs => c_spec_l01In h22) ?_
 refine oN 1 [(2, vb t21)] [] ?_
 refine oe (nt (qe ?_))
 obtain rfl := sI h23
 exact re [.bool t21]

theorem c_spec_EventsOk {W : World} {x0 : List Event} {a0_0 : Option Addr} {c0_0 : Nat} {r : Bool} (h : spec_EventsOk x0 = some r) (hv0_0 : SlView W x0 a0_0 c0_0) :
    Gives0 Tryz.prog 159 #[.slice a0_0 x0.length c0_0] W (.bool r) := by
 unfold spec_EventsOk at h
 refine en Tryz.func159 Tryz.ntmps159 ?_
 refine qs (qr (oN 1 [] [0] ?_))
 refine oe (nt (qs (qr (oN 1 [(3, vi 0)] [0] ?_))))
 refine oe (nt (qs (qs (qr (oN 1 [(4, vi 0)] [3, 0] ?_)))))
 refine oe (nt ?_)
 obtain ⟨r24, hL25, h26⟩ := bS h
 obtain ⟨k27, hk28, h26⟩ := brkS h26
 refine JC_cutP (τ := (Unit) × (Unit)) (fun y => k27 y.1 = some r) (fun y32 => [(0, .v (.slice a0_0 x0.length c0_0))]) (fun y32 => []) (fun y32 => []) ?_ (fun y32 h33p => ?_)
 · refine qb (lp Unit hL25 (fun s21 y22 => [(4, vi s21.1), (3, vi s21.2), (0, .v (.slice a0_0 x0.length c0_0))]) (fun s21 y22 => []) (fun s21 y22 => []) () [4, 3, 0] [] 0 (fun s21 y22 t23 h29 hd30 => ?_))
   refine qs (qs (qr (oN 4 [(10, vb (decide (s21.1 < (x0.length : Int))))] [4, 3, 0] ?_)))
   refine oe (nt (cC h29 (fun h35 => ?_) (fun h36 => ?_)))
   · refine qk (nt (qs (qb (qs (qr (oN 3 [(16, vi s21.1), (15, .v (.slice a0_0 x0.length c0_0)), (14, vi s21.2)] [4, 0] ?_))))))
     obtain ⟨x37, hx38, h39⟩ := bS h35
     refine oi 2 (fun γ w hs => (hv0_0.kept hs.kept)) hx38 ?_
     refine oN 1 [(18, .q a0_0 (Int.toNat s21.1 * 2))] [14, 4, 0] ?_
     refine ol 3 0 (.int .i64 x37.Kind) (fun γ w hs => (hv0_0.kept hs.kept).flatq hx38) ?_
     obtain ⟨t40, h41, h42⟩ := bS h39
     refine k0 (fun γ w hs => c_spec_StatusAfter h41) ?_
     refine oN 5 [(6, vb t40.2), (5, vi t40.1)] [4, 0] ?_
     refine oe (nt (qs (qs ?_)))
     obtain ⟨p44, hE45, h46⟩ := bS h42
     refine JC_cut (τ := Unit) (fun _ => [(0, .v (.slice a0_0 x0.length c0_0)), (4, vi s21.1), (5, vi t40.1), (51, vb p44)]) (fun _ => []) (fun _ => []) ?_ (fun _ => ?_)
     · refine JC_quiet (by kernel_rfl) (by kernel_rfl) ?_
       refine qN 3 [(25, vb (!t40.2))] [5, 4, 0] ?_
       refine qS 25 hE45 (fun h48 => ?_) (fun h49 => ?_)
       · refine qN 26 [(51, vb true)] [5, 4, 0] ?_
         refine qz ?_
         obtain rfl := sI h48
         exact mt () [0, 4, 5, 51] [] 0
       refine qN 2 [(27, vi s21.1), (26, .v (.slice a0_0 x0.length c0_0))] [25, 5, 4, 0] ?_
       obtain ⟨x50, hx51, h52⟩ := bS h49
       refine qi 2 (fun γ w hs => (hv0_0.kept hs.kept)) hx51 ?_
       refine qN 1 [(29, .q a0_0 (Int.toNat s21.1 * 2 + 1))] [25, 5, 4, 0] ?_
       refine ql 3 1 (.int .i64 x50.Month) (fun γ w hs => (hv0_0.kept hs.kept).flatq hx51) ?_
       obtain ⟨t53, h54, h55⟩ := bS h52
       refine q0 (fun γ w hs => c_spec_MonthOk h54) ?_
       refine qN 3 [(34, vb (!t53))] [5, 4, 0] ?_
       refine qS 34 h55 (fun h58 => ?_) (fun h59 => ?_)
       · refine qN 17 [(51, vb true)] [5, 4, 0] ?_
         refine qz ?_
         obtain rfl := sI h58
         exact mt () [0, 4, 5, 51] [] 0
       refine qN 3 [(37, vb (decide (s21.1 > 0)))] [34, 5, 4, 0] ?_
       refine qS 37 h59 (fun h61 => ?_) (fun h62 => ?_)
       · refine qN 3 [(40, vi (w64 (s21.1 - 1))), (38, .v (.slice a0_0 x0.length c0_0))] [37, 34, 5, 4, 0] ?_
         obtain ⟨x63, hx64, h65⟩ := bS h61
         refine qi 2 (fun γ w hs => (hv0_0.kept hs.kept)) hx64 ?_
         refine qN 1 [(42, .q a0_0 (Int.toNat (w64 (s21.1 - 1)) * 2 + 1))] [37, 34, 5, 4, 0] ?_
         refine ql 3 1 (.int .i64 x63.Month) (fun γ w hs => (hv0_0.kept hs.kept).flatq hx64) ?_
         refine qN 2 [(45, vi s21.1), (44, .v (.slice a0_0 x0.length c0_0))] [43, 37, 34, 5, 4, 0] ?_
         obtain ⟨x66, hx67, h68⟩ := bS h65
         refine qi 2 (fun γ w hs => (hv0_0.kept hs.kept)) hx67 ?_
         refine qN 1 [(47, .q a0_0 (Int.toNat s21.1 * 2 + 1))] [43, 37, 34, 5, 4, 0] ?_
         refine ql 3 1 (.int .i64 x66.Month) (fun γ w hs => (hv0_0.kept hs.kept).flatq hx67) ?_
         refine qN 3 [(51, vb (decide (x63.Month ≥ x66.Month)))] [5, 4, 0] ?_
         refine qz ?_
         obtain rfl := sI h68
         exact mt () [0, 4, 5, 51] [] 0
       refine qN 14 [(51, vb false)] [5, 4, 0] ?_
       refine qz ?_
       obtain rfl := sI h62
       exact mt () [0, 4, 5, 51] [] 0
     refine nt (cC h46 (fun h70 => ?_) (fun h71 => ?_))
     · refine qs (qr (oN 1 [(2, vb false)] [] ?_))
       refine oe (nt (qe (nr (br (nr (nr ?_))))))
       have h72 := leafR hd30 h70 h26
       refine br (nr (nr ?_))
       obtain rfl := sI h72
       exact re [.bool false]
     refine qk (nt (qr (oN 2 [(3, vi t40.1)] [0, 4] ?_)))
     refine oe (bn (nt (qr (oN 3 [(4, vi (w64 (s21.1 + 1)))] [3, 0] ?_))))
     exact oe (ct h71 () [4, 3, 0] [] 0)
   refine qx (nx (nx (bh ?_)))
   have h73 := leafB hd30 h36 h26
   exact mp ((), ()) h73 [0] [] 0
 have h33 := (congrFun hk28 _).symm.trans h33p
 refine nt (qs (qr (oN 4 [(2, vb (decide ((x0.length : Int) ≤ 30)))] [] ?_)))
 refine oe (nt (qe ?_))
 obtain rfl := sI h33
 exact re [.bool (decide ((x0.length : Int) ≤ 30))]

theorem c_spec_AddEvent {W : World} {x0 : List Event} {a0_0 : Option Addr} {c0_0 : Nat} {x1 : Event} {r : (List Event) × Bool} (h : spec_AddEvent x0 x1 = some r) (hv0_0 : SlView W x0 a0_0 c0_0) :
    Gives Tryz.prog 199 #[.slice a0_0 x0.length c0_0, vEvent x1] W (fun y : AC => .tuple #[.slice y.1 r.1.length y.2, .bool r.2]) (fun y => [SlRes 158 r.1 y.1 y.2]) := by
 unfold spec_AddEvent at h
 refine en Tryz.func199 Tryz.ntmps199 ?_
 refine qs (qr (oB 3 [(3, .p 0 0)] [0] [(158, (eEvent x1))] ?_))
 refine oe (nt (qs (qr (ob [] [] 158 0 [] ([] : List Event) (own_flat (by kernel_rfl)) (fun y21 => ?_)))))
 refine oN 1 [(6, .v (.slice y21.1 ([] : List Event).length y21.2))] [3, 0] ?_
 refine oe (nt (qs (qr (oN 1 [(7, vb false)] [6, 3, 0] ?_))))
 refine oe (nt (qs (qs (qr (oN 1 [(8, vi 0)] [7, 6, 3, 0] ?_)))))
 refine oe (nt ?_)
 obtain ⟨r26, hL27, h28⟩ := bS h
 obtain ⟨k29, hk30, h28⟩ := brkS h28
 refine JC_cutP (τ := (Bool × (List Event) × Int × Int) × (AC)) (fun y => k29 y.1 = some r) (fun y34 => [(7, vb y34.1.1), (6, .v (.slice y34.2.1 y34.1.2.1.length y34.2.2)), (3, .p 0 0), (0, .v (.slice a0_0 x0.length c0_0))]) (fun y34 => [(158, (eEvent (Event.mk y34.1.2.2.1 y34.1.2.2.2)))]) (fun y34 => [SlRes 158 y34.1.2.1 y34.2.1 y34.2.2]) ?_ (fun y34 h35p => ?_)
 · refine qb (lp AC hL27 (fun s23 y24 => [(8, vi s23.1), (7, vb s23.2.1), (6, .v (.slice y24.1 s23.2.2.length y24.2)), (3, .p 0 0), (0, .v (.slice a0_0 x0.length c0_0))]) (fun s23 y24 => [(158, (eEvent x1))]) (fun s23 y24 => [SlRes 158 s23.2.2 y24.1 y24.2]) (y21.1, y21.2) [8, 7, 6, 3, 0] [0] 1 (fun s23 y24 t25 h31 hd32 => ?_))
   refine qs (qs (qr (oN 4 [(13, vb (decide (s23.1 < (x0.length : Int))))] [8, 7, 6, 3, 0] ?_)))
   refine oe (nt (cC h31 (fun h88 => ?_) (fun h89 => ?_)))
   · refine qk (nt (qs (qb (qs (qs ?_)))))
     obtain ⟨p90, hE91, h92⟩ := bS h88
     refine JC_cut (τ := Unit) (fun _ => [(0, .v (.slice a0_0 x0.length c0_0)), (3, .p 0 0), (6, .v (.slice y24.1 s23.2.2.length y24.2)), (7, vb s23.2.1), (8, vi s23.1), (27, vb p90)]) (fun _ => [(158, (eEvent x1))]) (fun _ => [SlRes 158 s23.2.2 y24.1 y24.2]) ?_ (fun _ => ?_)
     · refine JC_quiet (by kernel_rfl) (by kernel_rfl) ?_
       refine qN 3 [(18, vb (!s23.2.1))] [8, 7, 6, 3, 0] ?_
       refine qS 18 hE91 (fun h94 => ?_) (fun h95 => ?_)
       · refine qN 2 [(20, vi s23.1), (19, .v (.slice a0_0 x0.length c0_0))] [18, 8, 7, 6, 3, 0] ?_
         obtain ⟨x96, hx97, h98⟩ := bS h94
         refine qi 2 (fun γ w hs => (hv0_0.kept hs.kept)) hx97 ?_
         refine qN 1 [(22, .q a0_0 (Int.toNat s23.1 * 2 + 1))] [18, 8, 7, 6, 3, 0] ?_
         refine ql 3 1 (.int .i64 x96.Month) (fun γ w hs => (hv0_0.kept hs.kept).flatq hx97) ?_
         refine qN 4 [(27, vb (decide (x96.Month > x1.Month)))] [8, 7, 6, 3, 0] ?_
         refine qz ?_
         obtain rfl := sI h98
         exact mt () [0, 3, 6, 7, 8, 27] [0] 1
       refine qN 9 [(27, vb false)] [8, 7, 6, 3, 0] ?_
       refine qz ?_
       obtain rfl := sI h95
       exact mt () [0, 3, 6, 7, 8, 27] [0] 1
     refine nt ?_
     obtain ⟨k108, hk109, h120⟩ := jS h92
     refine JC_cutP (τ := ((List Event) × Bool) × (AC)) (fun y => k108 y.1 = some t25) (fun y107 => [(0, .v (.slice a0_0 x0.length c0_0)), (3, .p 0 0), (6, .v (.slice y107.2.1 y107.1.1.length y107.2.2)), (7, vb y107.1.2), (8, vi s23.1)]) (fun y107 => [(158, (eEvent x1))]) (fun y107 => [SlRes 158 y107.1.1 y107.2.1 y107.2.2]) ?_ (fun y107 h110p => ?_)
     · refine cC h120 (fun h122 => ?_) (fun h123 => ?_)
       · refine qs (qr (oN 2 [(29, .v (vEvent x1)), (28, .v (.slice y24.1 s23.2.2.length y24.2))] [0, 3, 8] ?_))
         refine ob [] [SlRes 158 s23.2.2 y24.1 y24.2] 158 1 [.int .i64 x1.Kind, .int .i64 x1.Month] ([x1] : List Event) (own_flat (by kernel_rfl)) (fun y124 => ?_)
         refine or_ [1, 0] ?_
         obtain ⟨l127, hm128, h129⟩ := bS h122
         refine oa 34 y124.2 Tryz.t158 (vEvent (Event.mk 0 0)) (fun γ w hs => ⟨y124.2, (hs.view 1 rfl)⟩) hm128 (fun y126 => ?_)
         refine oN 1 [(6, .v (.slice y126.1 l127.length y126.2))] [0, 3, 8] ?_
         refine oe (nt (qr (oN 1 [(7, vb true)] [6, 0, 3, 8] ?_)))
         exact oe (mp ((l127, true), (y126.1, y126.2)) h129 [0, 3, 6, 7, 8] [0] 1)
       exact qk (mp ((s23.2.2, s23.2.1), (y24.1, y24.2)) h123 [0, 3, 6, 7, 8] [0] 1)
     have h110 := (congrFun hk109 _).symm.trans h110p
     refine nt (qr (oN 3 [(34, vi s23.1), (33, .v (.slice a0_0 x0.length c0_0)), (32, .v (.slice y107.2.1 y107.1.1.length y107.2.2))] [0, 3, 7, 8] ?_))
     obtain ⟨x111, hx112, h113⟩ := bS h110
     refine oi 2 (fun γ w hs => (hv0_0.kept hs.kept)) hx112 ?_
     refine ol 158 0 (vEvent x111) (fun γ w hs => (hv0_0.kept hs.kept).flatq hx112) ?_
     refine ob [] [SlRes 158 y107.1.1 y107.2.1 y107.2.2] 158 1 [.int .i64 x111.Kind, .int .i64 x111.Month] ([x111] : List Event) (own_flat (by kernel_rfl)) (fun y114 => ?_)
     refine or_ [1, 0] ?_
     obtain ⟨l117, hm118, h119⟩ := bS h113
     refine oa 34 y114.2 Tryz.t158 (vEvent (Event.mk 0 0)) (fun γ w hs => ⟨y114.2, (hs.view 1 rfl)⟩) hm118 (fun y116 => ?_)
     refine oN 1 [(6, .v (.slice y116.1 l117.length y116.2))] [0, 3, 7, 8] ?_
     refine oe (bn (nt (qr (oN 3 [(8, vi (w64 (s23.1 + 1)))] [6, 0, 3, 7] ?_))))
     exact oe (ct h119 (y116.1, y116.2) [8, 7, 6, 3, 0] [0] 1)
   refine qx (nx (nx (bh ?_)))
   have h130 := leafB hd32 h89 h28
   exact mp ((s23.2.1, s23.2.2, x1.Kind, x1.Month), (y24.1, y24.2)) h130 [7, 6, 3, 0] [0] 1
 have h35 := (congrFun hk30 _).symm.trans h35p
 refine nt (qs (qs (qr (oN 2 [(40, vb (!y34.1.1))] [6, 3, 0] ?_))))
 refine oe (nt ?_)
 obtain ⟨k45, hk46, h77⟩ := jS h35
 refine JC_cutP (τ := ((List Event)) × (AC)) (fun y => k45 y.1 = some r) (fun y44 => [(6, .v (.slice y44.2.1 y44.1.length y44.2.2)), (0, .v (.slice a0_0 x0.length c0_0))]) (fun y44 => [(158, (eEvent (Event.mk y34.1.2.2.1 y34.1.2.2.2)))]) (fun y44 => [SlRes 158 y44.1 y44.2.1 y44.2.2]) ?_ (fun y44 h47p => ?_)
 · refine cC h77 (fun h79 => ?_) (fun h80 => ?_)
   · refine qr (oN 2 [(42, .v (vEvent (Event.mk y34.1.2.2.1 y34.1.2.2.2))), (41, .v (.slice y34.2.1 y34.1.2.1.length y34.2.2))] [0] ?_)
     refine ob [] [SlRes 158 y34.1.2.1 y34.2.1 y34.2.2] 158 1 [.int .i64 y34.1.2.2.1, .int .i64 y34.1.2.2.2] ([Event.mk y34.1.2.2.1 y34.1.2.2.2] : List Event) (own_flat (by kernel_rfl)) (fun y81 => ?_)
     refine or_ [1, 0] ?_
     obtain ⟨l84, hm85, h86⟩ := bS h79
     refine oa 34 y81.2 Tryz.t158 (vEvent (Event.mk 0 0)) (fun γ w hs => ⟨y81.2, (hs.view 1 rfl)⟩) hm85 (fun y83 => ?_)
     refine oN 1 [(6, .v (.slice y83.1 l84.length y83.2))] [0] ?_
     exact oe (mp (l84, (y83.1, y83.2)) h86 [6, 0] [0] 1)
   exact qk (mp (y34.1.2.1, (y34.2.1, y34.2.2)) h80 [6, 0] [0] 1)
 have h47 := (congrFun hk46 _).symm.trans h47p
 refine nt (qs (qs ?_))
 obtain ⟨p48, hE49, h50⟩ := bS h47
 refine JC_cut (τ := Unit) (fun _ => [(0, .v (.slice a0_0 x0.length c0_0)), (6, .v (.slice y44.2.1 y44.1.length y44.2.2)), (52, vb p48)]) (fun _ => [(158, (eEvent (Event.mk y34.1.2.2.1 y34.1.2.2.2)))]) (fun _ => [SlRes 158 y44.1 y44.2.1 y44.2.2]) ?_ (fun _ => ?_)
 · refine qr (oN 1 [(45, .v (.slice a0_0 x0.length c0_0))] [6, 0] ?_)
   obtain ⟨t51, h52, h53⟩ := bS hE49
   refine k0 (fun γ w hs => c_spec_EventsOk h52 (hv0_0.kept hs.kept)) ?_
   refine oN 2 [(48, vb (!t51))] [6, 0] ?_
   refine oS 48 h53 (fun h56 => ?_) (fun h57 => ?_)
   · refine oN 4 [(52, vb true)] [6, 0] ?_
     refine oe ?_
     obtain rfl := sI h56
     exact mt () [0, 6, 52] [0] 1
   refine oN 1 [(49, .v (.slice y44.2.1 y44.1.length y44.2.2))] [48, 6, 0] ?_
   obtain ⟨t58, h59, h60⟩ := bS h57
   refine k0 (fun γ w hs => c_spec_EventsOk h59 (hs.view 0 rfl)) ?_
   refine oN 2 [(52, vb (!t58))] [6, 0] ?_
   refine oe ?_
   obtain rfl := sI h60
   exact mt () [0, 6, 52] [0] 1
 refine nt (cC h50 (fun h69 => ?_) (fun h70 => ?_))
 · refine qs (qr (ob [] [SlRes 158 y44.1 y44.2.1 y44.2.2] 158 0 [] ([] : List Event) (own_flat (by kernel_rfl)) (fun y71 => ?_)))
   refine oN 1 [(54, .v (.slice a0_0 x0.length c0_0))] [53] ?_
   obtain ⟨l74, hm75, h76⟩ := bS h69
   refine oa 34 c0_0 Tryz.t158 (vEvent (Event.mk 0 0)) (fun γ w hs => ⟨c0_0, (hv0_0.kept hs.kept)⟩) hm75 (fun y73 => ?_)
   refine oN 2 [(5, vb false), (4, .v (.slice y73.1 l74.length y73.2))] [] ?_
   refine oe (nt (qe (nr (rt [.slice y73.1 l74.length y73.2, .bool false] (fun γ w hs => ?_)))))
   rw [← sI h76]
   exact ⟨y73, rfl, hs.kept.toBelow, (hs.takeR (is := [0]) rfl).fresh⟩
 refine qk (nt (qs (qr (oN 3 [(5, vb true), (4, .v (.slice y44.2.1 y44.1.length y44.2.2))] [] ?_))))
 refine oe (nt (qe (rt [.slice y44.2.1 y44.1.length y44.2.2, .bool true] (fun γ w hs => ?_))))
 rw [← sI h70]
 exact ⟨y44.2, rfl, hs.kept.toBelow, (hs.takeR (is := [0]) rfl).fresh⟩

theorem c_spec_l18Events {W : World} {xb0 : List U8} {xi0 xh0 : Int} {p0 ca0 : Option Addr} {cc0 : Nat} {r : (List Event) × Int × Int} (h : spec_l18Events xb0 xi0 xh0 = some r) (hv0_0 : SlView W xb0 ca0 cc0) :
    GivesC Tryz.prog 138 172 #[(SV.q p0 0).den []] W (CurD.mk xb0 xi0 xh0) p0 ca0 cc0 (CurD.mk xb0 r.2.1 r.2.2) (fun y : AC => .slice y.1 r.1.length y.2) (fun y => [SlRes 158 r.1 y.1 y.2]) := by
 unfold spec_l18Events at h
 refine enterC [.q p0 0] (args := [(SV.q p0 0).den []]) hv0_0 (by kernel_rfl) (by kernel_rfl) Tryz.func172 rfl Tryz.ntmps172 (by kernel_rfl) (fun g hg hs0 => ?_)
 refine qs (qr (oN 1 [] [0] ?_))
 refine oe (nt (qs (qr (ob [] [CurRes 138 (CurD.mk xb0 xi0 xh0) p0 ca0 cc0] 158 0 [] ([] : List Event) (own_flat (by kernel_rfl)) (fun y21 => ?_)))))
 refine oN 1 [(3, .v (.slice y21.1 ([] : List Event).length y21.2))] [0] ?_
 refine oe (nt (qs (qr (oN 1 [(10, .q p0 0)] [3, 0] ?_))))
 refine or_ [1, 0] ?_
 obtain ⟨t23, h24, h25⟩ := bS h
 refine JO_callC rfl (by kernel_rfl) (f := 50) (args := fun γ => #[(SV.q p0 0).den [], .int .i64 20]) (fun γ => by kernel_rfl) (x0 := CurD.mk xb0 xi0 xh0) (x1 := CurD.mk xb0 t23.2.1 t23.2.2) (Rr := [SlRes 158 ([] : List Event) y21.1 y21.2]) rfl hs0 (fun γ w hs => (by have vv := c_spec_l01Below (p0 := p0) (W := w) h24 (hs0.kept hs.kept); exact vv)) (fun (y26 : Unit) => [(11, vi t23.1), (10, .q p0 0), (3, .v (.slice y21.1 ([] : List Event).length y21.2)), (0, .q p0 0)]) (fun y26 => by kernel_rfl) (fun y26 => ?_)
 refine oN 1 [(4, vi t23.1)] [3, 0] ?_
 refine oe (nt (qs (qs (qr (oN 1 [(5, vi 0)] [4, 3, 0] ?_)))))
 refine oe (nt ?_)
 obtain ⟨r30, hL31, h32⟩ := bS h25
 obtain ⟨k33, hk34, h32⟩ := brkS h32
 refine JC_cutP (τ := ((List Event) × Int × Int) × (AC)) (fun y => k33 y.1 = some r) (fun y38 => [(3, .v (.slice y38.2.1 y38.1.1.length y38.2.2)), (0, .q p0 0)]) (fun y38 => []) (fun y38 => [SlRes 158 y38.1.1 y38.2.1 y38.2.2, CurRes 138 (CurD.mk xb0 y38.1.2.1 y38.1.2.2) p0 ca0 cc0]) ?_ (fun y38 h39p => ?_)
 · refine qb (lp AC hL31 (fun s27 y28 => [(5, vi s27.1), (4, vi s27.2.1), (3, .v (.slice y28.1 s27.2.2.1.length y28.2)), (0, .q p0 0)]) (fun s27 y28 => []) (fun s27 y28 => [SlRes 158 s27.2.2.1 y28.1 y28.2, CurRes 138 (CurD.mk xb0 s27.2.2.2.1 s27.2.2.2.2) p0 ca0 cc0]) (y21.1, y21.2) [5, 4, 3, 0] [1, 0] 0 (fun s27 y28 t29 h35 hd36 => ?_))
   refine qs (qs (qr (oN 2 [(13, .q p0 0), (12, vi s27.1)] [5, 4, 3, 0] ?_)))
   refine or_ [1, 0] ?_
   obtain ⟨t40, h41, h42⟩ := bS h35
   refine JO_callC rfl (by kernel_rfl) (f := 50) (args := fun γ => #[(SV.q p0 0).den [], .int .i64 9]) (fun γ => by kernel_rfl) (x0 := CurD.mk xb0 s27.2.2.2.1 s27.2.2.2.2) (x1 := CurD.mk xb0 t40.2.1 t40.2.2) (Rr := [SlRes 158 s27.2.2.1 y28.1 y28.2]) rfl hs0 (fun γ w hs => (by have vv := c_spec_l01Below (p0 := p0) (W := w) h41 (hs0.kept hs.kept); exact vv)) (fun (y43 : Unit) => [(14, vi t40.1), (13, .q p0 0), (12, vi s27.1), (5, vi s27.1), (4, vi s27.2.1), (3, .v (.slice y28.1 s27.2.2.1.length y28.2)), (0, .q p0 0)]) (fun y43 => by kernel_rfl) (fun y43 => ?_)
   refine oN 1 [(15, vb (decide (s27.1 < t40.1)))] [5, 4, 3, 0] ?_
   refine oe (nt (cC h42 (fun h45 => ?_) (fun h46 => ?_)))
   · refine qk (nt (qs (qb (qs (qr (oN 1 [(18, .q p0 0)] [5, 4, 3, 0] ?_))))))
     obtain ⟨t47, h48, h49⟩ := bS h45
     refine JO_callC rfl (by kernel_rfl) (f := 50) (args := fun γ => #[(SV.q p0 0).den [], .int .i64 4]) (fun γ => by kernel_rfl) (x0 := CurD.mk xb0 t40.2.1 t40.2.2) (x1 := CurD.mk xb0 t47.2.1 t47.2.2) (Rr := [SlRes 158 s27.2.2.1 y28.1 y28.2]) rfl hs0 (fun γ w hs => (by have vv := c_spec_l01Below (p0 := p0) (W := w) h48 (hs0.kept hs.kept); exact vv)) (fun (y50 : Unit) => [(19, vi t47.1), (18, .q p0 0), (5, vi s27.1), (4, vi s27.2.1), (3, .v (.slice y28.1 s27.2.2.1.length y28.2)), (0, .q p0 0)]) (fun y50 => by kernel_rfl) (fun y50 => ?_)
     refine oN 2 [(6, vi (w64 (1 + t47.1)))] [5, 4, 3, 0] ?_
     refine oe (nt (qs (qs ?_)))
     obtain ⟨p51, hE52, h53⟩ := bS h49
     refine JC_cut (τ := Unit) (fun _ => [(0, .q p0 0), (3, .v (.slice y28.1 s27.2.2.1.length y28.2)), (4, vi s27.2.1), (5, vi s27.1), (6, vi (w64 (1 + t47.1))), (27, vb p51.2.2)]) (fun _ => []) (fun _ => [SlRes 158 s27.2.2.1 y28.1 y28.2, CurRes 138 (CurD.mk xb0 p51.1 p51.2.1) p0 ca0 cc0]) ?_ (fun _ => ?_)
     · refine qr (oN 3 [(23, vb ((w64 (1 + t47.1)) == 4))] [6, 5, 4, 3, 0] ?_)
       refine oS 23 hE52 (fun h55 => ?_) (fun h56 => ?_)
       · refine oN 1 [(24, .q p0 0)] [23, 6, 5, 4, 3, 0] ?_
         obtain ⟨t57, h58, h59⟩ := bS h55
         refine JO_callC rfl (by kernel_rfl) (f := 117) (args := fun γ => #[(SV.q p0 0).den [], .int .i64 3]) (fun γ => by kernel_rfl) (x0 := CurD.mk xb0 t47.2.1 t47.2.2) (x1 := CurD.mk xb0 t57.2.1 t57.2.2) (Rr := [SlRes 158 s27.2.2.1 y28.1 y28.2]) rfl hs0 (fun γ w hs => (by have vv := c_spec_l01Once (p0 := p0) (W := w) h58 (hs0.kept hs.kept); exact vv)) (fun (y60 : Unit) => [(25, vb t57.1), (24, .q p0 0), (23, vb true), (6, vi (w64 (1 + t47.1))), (5, vi s27.1), (4, vi s27.2.1), (3, .v (.slice y28.1 s27.2.2.1.length y28.2)), (0, .q p0 0)]) (fun y60 => by kernel_rfl) (fun y60 => ?_)
         refine oN 2 [(27, vb (!t57.1))] [6, 5, 4, 3, 0] ?_
         refine oe ?_
         obtain rfl := sI h59
         exact mt () [0, 3, 4, 5, 6, 27] [1, 0] 0
       refine oN 4 [(27, vb false)] [6, 5, 4, 3, 0] ?_
       refine oe ?_
       obtain rfl := sI h56
       exact mt () [0, 3, 4, 5, 6, 27] [1, 0] 0
     refine nt ?_
     obtain ⟨k64, hk65, h89⟩ := jS h53
     refine JC_cutP (τ := (Int) × (Unit)) (fun y => k64 y.1 = some t29) (fun y63 => [(0, .q p0 0), (3, .v (.slice y28.1 s27.2.2.1.length y28.2)), (4, vi s27.2.1), (5, vi s27.1), (6, vi y63.1)]) (fun y63 => []) (fun y63 => [SlRes 158 s27.2.2.1 y28.1 y28.2, CurRes 138 (CurD.mk xb0 p51.1 p51.2.1) p0 ca0 cc0]) ?_ (fun y63 h66p => ?_)
     · refine cC h89 (fun h91 => ?_) (fun h92 => ?_)
       · refine qr (oN 1 [(6, vi 1)] [0, 3, 4, 5] ?_)
         exact oe (mp (1, ()) h91 [0, 3, 4, 5, 6] [0, 0] 0)
       exact qk (mp (w64 (1 + t47.1), ()) h92 [0, 3, 4, 5, 6] [0, 0] 0)
     have h66 := (congrFun hk65 _).symm.trans h66p
     refine nt (qs (qr (oN 4 [(32, .v (vEvent (Event.mk y63.1 s27.2.1))), (29, .v (.slice y28.1 s27.2.2.1.length y28.2))] [0, 3, 4, 5] ?_)))
     obtain ⟨t67, h68, h69⟩ := bS h66
     refine k1 (fun γ w hs => c_spec_AddEvent h68 (hs.view 0 rfl)) (fun y70 => ?_)
     refine oN 5 [(8, vb t67.2), (7, .v (.slice y70.1 t67.1.length y70.2))] [0, 3, 4, 5] ?_
     refine oe (nt (qs (qr (oN 1 [(36, vb t67.2)] [7, 0, 3, 4, 5] ?_))))
     refine oe (nt ?_)
     obtain ⟨k78, hk79, h81⟩ := jS h69
     refine JC_cutP (τ := (Int × Int × (List Event) × Int) × (AC)) (fun y => k78 y.1 = some t29) (fun y77 => [(0, .q p0 0), (3, .v (.slice y77.2.1 y77.1.2.2.1.length y77.2.2)), (4, vi y77.1.2.2.2), (5, vi s27.1)]) (fun y77 => []) (fun y77 => [SlRes 158 y77.1.2.2.1 y77.2.1 y77.2.2, CurRes 138 (CurD.mk xb0 y77.1.1 y77.1.2.1) p0 ca0 cc0]) ?_ (fun y77 h80p => ?_)
     · refine cC h81 (fun h83 => ?_) (fun h84 => ?_)
       · refine qs (qr (oN 2 [(3, .v (.slice y70.1 t67.1.length y70.2))] [0, 4, 5] ?_))
         refine oe (nt (qr (oN 3 [(40, .q p0 0), (39, vi (w64 (s27.2.1 + 1)))] [3, 0, 5] ?_)))
         refine or_ [2, 0, 0] ?_
         obtain ⟨t85, h86, h87⟩ := bS h83
         refine JO_callC rfl (by kernel_rfl) (f := 50) (args := fun γ => #[(SV.q p0 0).den [], .int .i64 20]) (fun γ => by kernel_rfl) (x0 := CurD.mk xb0 p51.1 p51.2.1) (x1 := CurD.mk xb0 t85.2.1 t85.2.2) (Rr := [SlRes 158 t67.1 y70.1 y70.2, SlRes 158 s27.2.2.1 y28.1 y28.2]) rfl hs0 (fun γ w hs => (by have vv := c_spec_l01Below (p0 := p0) (W := w) h86 (hs0.kept hs.kept); exact vv)) (fun (y88 : Unit) => [(41, vi t85.1), (40, .q p0 0), (39, vi (w64 (s27.2.1 + 1))), (3, .v (.slice y70.1 t67.1.length y70.2)), (0, .q p0 0), (5, vi s27.1)]) (fun y88 => by kernel_rfl) (fun y88 => ?_)
         refine oN 2 [(4, vi (w64 ((w64 (s27.2.1 + 1)) + t85.1)))] [3, 0, 5] ?_
         exact oe (mp ((t85.2.1, t85.2.2, t67.1, w64 ((w64 (s27.2.1 + 1)) + t85.1)), (y70.1, y70.2)) h87 [0, 3, 4, 5] [1, 0] 0)
       exact qk (mp ((p51.1, p51.2.1, s27.2.2.1, s27.2.1), (y28.1, y28.2)) h84 [0, 3, 4, 5] [1, 1] 0)
     have h80 := (congrFun hk79 _).symm.trans h80p
     refine bn (nt (qr (oN 3 [(5, vi (w64 (s27.1 + 1)))] [0, 3, 4] ?_)))
     exact oe (ct h80 (y77.2.1, y77.2.2) [5, 4, 3, 0] [0, 0] 0)
   refine qx (nx (nx (bh ?_)))
   have h93 := leafB hd36 h46 h32
   exact mp ((s27.2.2.1, t40.2.1, t40.2.2), (y28.1, y28.2)) h93 [3, 0] [1, 0] 0
 have h39 := (congrFun hk34 _).symm.trans h39p
 refine nt (qs (qr (oN 2 [(2, .v (.slice y38.2.1 y38.1.1.length y38.2.2))] [0] ?_)))
 refine oe (nt (qe (rt [.slice y38.2.1 y38.1.1.length y38.2.2] (fun γ w hs => ?_))))
 rw [← sI h39]
 exact hs.curPost hg y38.2 (is := [1, 0]) rfl

theorem c_spec_l22Member {W : World} {xb0 : List U8} {xi0 xh0 : Int} {p0 ca0 : Option Addr} {cc0 : Nat} {r : Member × Int × Int} (h : spec_l22Member xb0 xi0 xh0 = some r) (hv0_0 : SlView W xb0 ca0 cc0) :
    GivesC Tryz.prog 138 114 #[(SV.q p0 0).den []] W (CurD.mk xb0 xi0 xh0) p0 ca0 cc0 (CurD.mk xb0 r.2.1 r.2.2) (fun y : AC × AC => vMember r.1 y) (fun y => [SlRes 156 r.1.Spells y.1.1 y.1.2, SlRes 158 r.1.Events y.2.1 y.2.2]) := by
 unfold spec_l22Member at h
 refine enterC [.q p0 0] (args := [(SV.q p0 0).den []]) hv0_0 (by kernel_rfl) (by kernel_rfl) Tryz.func114 rfl Tryz.ntmps114 (by kernel_rfl) (fun g hg hs0 => ?_)
 refine qs (qr (oB 1 [(2, .p 0 0)] [0] [(36, [.int .i64 0, .int .i64 0, .slice none 0 0, .slice none 0 0])] ?_))
 refine oe (nt (qs (qr (oN 1 [(4, .q p0 0)] [2, 0] ?_))))
 obtain ⟨t21, h22, h23⟩ := bS h
 refine JO_callC rfl (by kernel_rfl) (f := 50) (args := fun γ => #[(SV.q p0 0).den [], .int .i64 4]) (fun γ => by kernel_rfl) (x0 := CurD.mk xb0 xi0 xh0) (x1 := CurD.mk xb0 t21.2.1 t21.2.2) (Rr := []) rfl hs0 (fun γ w hs => (by have vv := c_spec_l01Below (p0 := p0) (W := w) h22 (hs0.kept hs.kept); exact vv)) (fun (y24 : Unit) => [(5, vi t21.1), (4, .q p0 0), (2, .p 0 0), (0, .q p0 0)]) (fun y24 => by kernel_rfl) (fun y24 => ?_)
 refine oN 1 [(6, .q p0 0)] [5, 2, 0] ?_
 obtain ⟨t25, h26, h27⟩ := bS h23
 refine JO_callC rfl (by kernel_rfl) (f := 171) (args := fun γ => #[(SV.q p0 0).den []]) (fun γ => by kernel_rfl) (x0 := CurD.mk xb0 t21.2.1 t21.2.2) (x1 := CurD.mk xb0 t25.2.1 t25.2.2) (Rr := []) rfl hs0 (fun γ w hs => (by have vv := c_spec_l11Spells (p0 := p0) (W := w) h26 (hs0.kept hs.kept); exact vv)) (fun (y28 : AC) => [(7, .v (.slice y28.1 t25.1.length y28.2)), (6, .q p0 0), (5, vi t21.1), (2, .p 0 0), (0, .q p0 0)]) (fun y28 => by kernel_rfl) (fun y28 => ?_)
 refine oB 3 [(3, .p 1 0)] [2, 0] [(36, [.int .i64 0, .int .i64 0, .slice none 0 0, .slice none 0 0]), (36, (eMember (Member.mk t21.1 5 t25.1 ([] : List Event)) (y28, (none, 0))))] ?_
 refine oe (nt (qs (qr (oN 2 [(10, .q p0 0), (9, .v (vEvent (Event.mk 1 5)))] [3, 2, 0] ?_))))
 refine or_ [1, 0] ?_
 obtain ⟨t29, h30, h31⟩ := bS h27
 refine JO_callC rfl (by kernel_rfl) (f := 50) (args := fun γ => #[(SV.q p0 0).den [], .int .i64 20]) (fun γ => by kernel_rfl) (x0 := CurD.mk xb0 t25.2.1 t25.2.2) (x1 := CurD.mk xb0 t29.2.1 t29.2.2) (Rr := [SlRes 156 t25.1 y28.1 y28.2]) rfl hs0 (fun γ w hs => (by have vv := c_spec_l01Below (p0 := p0) (W := w) h30 (hs0.kept hs.kept); exact vv)) (fun (y32 : Unit) => [(11, vi t29.1), (10, .q p0 0), (9, .v (vEvent (Event.mk 1 5))), (3, .p 1 0), (2, .p 0 0), (0, .q p0 0)]) (fun y32 => by kernel_rfl) (fun y32 => ?_)
 refine oN 2 [(13, .v (vEvent (Event.mk 3 (w64 (30 + t29.1)))))] [9, 3, 2, 0] ?_
 refine ob [] [CurRes 138 (CurD.mk xb0 t29.2.1 t29.2.2) p0 ca0 cc0, SlRes 156 t25.1 y28.1 y28.2] 158 2 [.int .i64 1, .int .i64 5, .int .i64 3, .int .i64 (w64 (30 + t29.1))] ([Event.mk 1 5, Event.mk 3 (w64 (30 + t29.1))] : List Event) (own_flat (by kernel_rfl)) (fun y33 => ?_)
 refine oB 2 [] [3, 2, 0] [(36, [.int .i64 0, .int .i64 0, .slice none 0 0, .slice none 0 0]), (36, (eMember (Member.mk t21.1 5 t25.1 ([Event.mk 1 5, Event.mk 3 (w64 (30 + t29.1))] : List Event)) (y28, y33)))] ?_
 refine oe (nt (qs (qs (qr (oN 1 [(16, .q p0 0)] [3, 2, 0] ?_)))))
 refine or_ [1, 0, 0] ?_
 obtain ⟨t35, h36, h37⟩ := bS h31
 refine JO_callC rfl (by kernel_rfl) (f := 50) (args := fun γ => #[(SV.q p0 0).den [], .int .i64 6]) (fun γ => by kernel_rfl) (x0 := CurD.mk xb0 t29.2.1 t29.2.2) (x1 := CurD.mk xb0 t35.2.1 t35.2.2) (Rr := [SlRes 158 ([Event.mk 1 5, Event.mk 3 (w64 (30 + t29.1))] : List Event) y33.1 y33.2, SlRes 156 t25.1 y28.1 y28.2]) rfl hs0 (fun γ w hs => (by have vv := c_spec_l01Below (p0 := p0) (W := w) h36 (hs0.kept hs.kept); exact vv)) (fun (y38 : Unit) => [(17, vi t35.1), (16, .q p0 0), (3, .p 1 0), (2, .p 0 0), (0, .q p0 0)]) (fun y38 => by kernel_rfl) (fun y38 => ?_)
 refine oe (nt (qb (qs (qr (oN 2 [(18, vb (t35.1 == 0))] [17, 3, 2, 0] ?_)))))
 refine oe (nt ?_)
 obtain ⟨k59, hk60, h62⟩ := jS h37
 refine JC_cutP (τ := (Int × Int × (List Event)) × (AC)) (fun y => k59 y.1 = some r) (fun y58 => [(3, .p 1 0), (2, .p 0 0), (0, .q p0 0)]) (fun y58 => [(36, [.int .i64 0, .int .i64 0, .slice none 0 0, .slice none 0 0]), (36, (eMember (Member.mk t21.1 5 t25.1 y58.1.2.2) (y28, y58.2)))]) (fun y58 => [SlRes 156 t25.1 y28.1 y28.2, SlRes 158 y58.1.2.2 y58.2.1 y58.2.2, CurRes 138 (CurD.mk xb0 y58.1.1 y58.1.2.1) p0 ca0 cc0]) ?_ (fun y58 h61p => ?_)
 · refine cC h62 (fun h64 => ?_) (fun h65 => ?_)
   · obtain ⟨t66, h67, h68⟩ := bS h64
     obtain ⟨l72, hm73, h74⟩ := bS h68
     refine JC_cut (τ := AC) (fun y75 => [(3, .p 1 0), (2, .p 0 0), (0, .q p0 0)]) (fun y75 => [(36, [.int .i64 0, .int .i64 0, .slice none 0 0, .slice none 0 0]), (36, (eMember (Member.mk t21.1 5 t25.1 l72) (y28, y75)))]) (fun y75 => [SlRes 158 l72 y75.1 y75.2, CurRes 138 (CurD.mk xb0 t66.2.1 t66.2.2) p0 ca0 cc0, SlRes 156 t25.1 y28.1 y28.2]) ?_ (fun y75 => ?_)
     · refine jw [3, 2, 0] [0, 0, 0] ?_
       refine JC_heldN (ks := [0]) (Rk := [SlRes 156 t25.1 y28.1 y28.2]) 10 (by kernel_rfl) (by kernel_rfl) ?_
       refine htq 0 (.p 1 3) [2] ?_
       refine htq 2 (.q p0 0) [2] ?_
       refine ha2 1 3 ?_ ?_
       · refine hi (fun γ0 δ hm => ?_)
         refine gs [(21, .v (.slice y33.1 ([Event.mk 1 5, Event.mk 3 (w64 (30 + t29.1))] : List Event).length y33.2)), (22, .q p0 0), (20, .p 1 3), (3, .p 1 0), (2, .p 0 0), (0, .q p0 0)] [(36, [.int .i64 0, .int .i64 0, .slice none 0 0, .slice none 0 0]), (36, (eMember (Member.mk t21.1 5 t25.1 ([Event.mk 1 5, Event.mk 3 (w64 (30 + t29.1))] : List Event)) (y28, y33)))] (fun δ2 => ?_)
         refine gd hm [21, 22, 3, 2, 0] [2] ?_
         refine ha1 3 ?_
         refine hi (fun γ0 δ hm => ?_)
         refine JG_callC (by kernel_rfl) (f := 50) (args := #[(SV.q p0 0).den [], .int .i64 30]) (by kernel_rfl) (x0 := CurD.mk xb0 t35.2.1 t35.2.2) (x1 := CurD.mk xb0 t66.2.1 t66.2.2) (Rr := [SlRes 158 ([Event.mk 1 5, Event.mk 3 (w64 (30 + t29.1))] : List Event) y33.1 y33.2, SlRes 156 t25.1 y28.1 y28.2]) rfl hs0 (fun w hs => (by have vv := c_spec_l01Below (p0 := p0) (W := w) h67 (hs0.kept hs.kept); exact vv)) (fun (y69 : Unit) => [(23, vi t66.1), (21, .v (.slice y33.1 ([Event.mk 1 5, Event.mk 3 (w64 (30 + t29.1))] : List Event).length y33.2)), (22, .q p0 0), (3, .p 1 0), (2, .p 0 0), (0, .q p0 0)]) (fun y69 => by kernel_rfl) (fun y69 => ?_)
         refine gn hm [23, 21, 3, 2, 0] [2] ?_
         refine htq 4 (vi (w64 (60 + t66.1))) [2] ?_
         refine hk [24, 21, 3, 2, 0] ?_
         refine htq 5 (.v (vEvent (Event.mk 4 (w64 (60 + t66.1))))) [2] ?_
         refine hk [25, 21, 3, 2, 0] ?_
         refine ha1 6 ?_
         refine hi (fun γ0 δ hm => ?_)
         refine gb [] [CurRes 138 (CurD.mk xb0 t66.2.1 t66.2.2) p0 ca0 cc0, SlRes 158 ([Event.mk 1 5, Event.mk 3 (w64 (30 + t29.1))] : List Event) y33.1 y33.2, SlRes 156 t25.1 y28.1 y28.2] 158 1 [.int .i64 4, .int .i64 (w64 (60 + t66.1))] ([Event.mk 4 (w64 (60 + t66.1))] : List Event) (own_flat (by kernel_rfl)) (fun y70 => ?_)
         refine gn hm [26, 21, 3, 2, 0] [3] ?_
         refine ha1 7 ?_
         refine hr_ [2, 0, 0, 0] ?_
         refine hi (fun γ0 δ hm => ?_)
         refine ga 34 y70.2 Tryz.t158 (vEvent (Event.mk 0 0)) (fun w hs => ⟨y70.2, (hs.view 1 rfl)⟩) hm73 (fun y71 => ?_)
         refine gn hm [27, 3, 2, 0] [3] ?_
         refine htq 8 (.p 1 3) [3] ?_
         refine ha1 9 ?_
         refine hi (fun γ0 δ hm => ?_)
         refine gs [(28, .p 1 3), (27, .v (.slice y71.1 l72.length y71.2)), (3, .p 1 0), (2, .p 0 0), (0, .q p0 0)] [(36, [.int .i64 0, .int .i64 0, .slice none 0 0, .slice none 0 0]), (36, (eMember (Member.mk t21.1 5 t25.1 l72) (y28, y71)))] (fun δ2 => ?_)
         refine gd hm [3, 2, 0] [3] ?_
         exact hd y71 [3, 2, 0] [0, 1, 1] 2
       · refine hi (fun γ0 δ hm => ?_)
         refine JG_callC (by kernel_rfl) (f := 50) (args := #[(SV.q p0 0).den [], .int .i64 30]) (by kernel_rfl) (x0 := CurD.mk xb0 t35.2.1 t35.2.2) (x1 := CurD.mk xb0 t66.2.1 t66.2.2) (Rr := [SlRes 158 ([Event.mk 1 5, Event.mk 3 (w64 (30 + t29.1))] : List Event) y33.1 y33.2, SlRes 156 t25.1 y28.1 y28.2]) rfl hs0 (fun w hs => (by have vv := c_spec_l01Below (p0 := p0) (W := w) h67 (hs0.kept hs.kept); exact vv)) (fun (y69 : Unit) => [(23, vi t66.1), (22, .q p0 0), (20, .p 1 3), (3, .p 1 0), (2, .p 0 0), (0, .q p0 0)]) (fun y69 => by kernel_rfl) (fun y69 => ?_)
         refine gn hm [23, 20, 3, 2, 0] [2] ?_
         refine htq 4 (vi (w64 (60 + t66.1))) [2] ?_
         refine hk [24, 20, 3, 2, 0] ?_
         refine htq 5 (.v (vEvent (Event.mk 4 (w64 (60 + t66.1))))) [2] ?_
         refine hk [25, 20, 3, 2, 0] ?_
         refine ha2 1 6 ?_ ?_
         · refine hi (fun γ0 δ hm => ?_)
           refine gs [(21, .v (.slice y33.1 ([Event.mk 1 5, Event.mk 3 (w64 (30 + t29.1))] : List Event).length y33.2)), (25, .v (vEvent (Event.mk 4 (w64 (60 + t66.1))))), (20, .p 1 3), (3, .p 1 0), (2, .p 0 0), (0, .q p0 0)] [(36, [.int .i64 0, .int .i64 0, .slice none 0 0, .slice none 0 0]), (36, (eMember (Member.mk t21.1 5 t25.1 ([Event.mk 1 5, Event.mk 3 (w64 (30 + t29.1))] : List Event)) (y28, y33)))] (fun δ2 => ?_)
           refine gd hm [21, 25, 3, 2, 0] [2] ?_
           refine ha1 6 ?_
           refine hi (fun γ0 δ hm => ?_)
           refine gb [] [CurRes 138 (CurD.mk xb0 t66.2.1 t66.2.2) p0 ca0 cc0, SlRes 158 ([Event.mk 1 5, Event.mk 3 (w64 (30 + t29.1))] : List Event) y33.1 y33.2, SlRes 156 t25.1 y28.1 y28.2] 158 1 [.int .i64 4, .int .i64 (w64 (60 + t66.1))] ([Event.mk 4 (w64 (60 + t66.1))] : List Event) (own_flat (by kernel_rfl)) (fun y70 => ?_)
           refine gn hm [26, 21, 3, 2, 0] [3] ?_
           refine ha1 7 ?_
           refine hr_ [2, 0, 0, 0] ?_
           refine hi (fun γ0 δ hm => ?_)
           refine ga 34 y70.2 Tryz.t158 (vEvent (Event.mk 0 0)) (fun w hs => ⟨y70.2, (hs.view 1 rfl)⟩) hm73 (fun y71 => ?_)
           refine gn hm [27, 3, 2, 0] [3] ?_
           refine htq 8 (.p 1 3) [3] ?_
           refine ha1 9 ?_
           refine hi (fun γ0 δ hm => ?_)
           refine gs [(28, .p 1 3), (27, .v (.slice y71.1 l72.length y71.2)), (3, .p 1 0), (2, .p 0 0), (0, .q p0 0)] [(36, [.int .i64 0, .int .i64 0, .slice none 0 0, .slice none 0 0]), (36, (eMember (Member.mk t21.1 5 t25.1 l72) (y28, y71)))] (fun δ2 => ?_)
           refine gd hm [3, 2, 0] [3] ?_
           exact hd y71 [3, 2, 0] [0, 1, 1] 2
         · refine hi (fun γ0 δ hm => ?_)
           refine gb [] [CurRes 138 (CurD.mk xb0 t66.2.1 t66.2.2) p0 ca0 cc0, SlRes 158 ([Event.mk 1 5, Event.mk 3 (w64 (30 + t29.1))] : List Event) y33.1 y33.2, SlRes 156 t25.1 y28.1 y28.2] 158 1 [.int .i64 4, .int .i64 (w64 (60 + t66.1))] ([Event.mk 4 (w64 (60 + t66.1))] : List Event) (own_flat (by kernel_rfl)) (fun y70 => ?_)
           refine gn hm [26, 20, 3, 2, 0] [3] ?_
           refine ha1 1 ?_
           refine hi (fun γ0 δ hm => ?_)
           refine gs [(21, .v (.slice y33.1 ([Event.mk 1 5, Event.mk 3 (w64 (30 + t29.1))] : List Event).length y33.2)), (26, .v (.slice y70.1 ([Event.mk 4 (w64 (60 + t66.1))] : List Event).length y70.2)), (20, .p 1 3), (3, .p 1 0), (2, .p 0 0), (0, .q p0 0)] [(36, [.int .i64 0, .int .i64 0, .slice none 0 0, .slice none 0 0]), (36, (eMember (Member.mk t21.1 5 t25.1 ([Event.mk 1 5, Event.mk 3 (w64 (30 + t29.1))] : List Event)) (y28, y33)))] (fun δ2 => ?_)
           refine gd hm [21, 26, 3, 2, 0] [3] ?_
           refine ha1 7 ?_
           refine hr_ [2, 0, 0, 0] ?_
           refine hi (fun γ0 δ hm => ?_)
           refine ga 34 y70.2 Tryz.t158 (vEvent (Event.mk 0 0)) (fun w hs => ⟨y70.2, (hs.view 1 rfl)⟩) hm73 (fun y71 => ?_)
           refine gn hm [27, 3, 2, 0] [3] ?_
           refine htq 8 (.p 1 3) [3] ?_
           refine ha1 9 ?_
           refine hi (fun γ0 δ hm => ?_)
           refine gs [(28, .p 1 3), (27, .v (.slice y71.1 l72.length y71.2)), (3, .p 1 0), (2, .p 0 0), (0, .q p0 0)] [(36, [.int .i64 0, .int .i64 0, .slice none 0 0, .slice none 0 0]), (36, (eMember (Member.mk t21.1 5 t25.1 l72) (y28, y71)))] (fun δ2 => ?_)
           refine gd hm [3, 2, 0] [3] ?_
           exact hd y71 [3, 2, 0] [0, 1, 1] 2
     exact mp ((t66.2.1, t66.2.2, l72), (y75.1, y75.2)) h74 [3, 2, 0] [2, 0, 0] 2
   refine qs (qr (oN 2 [(29, vb (t35.1 == 1))] [3, 2, 0] ?_))
   refine oe (nt (cC h65 (fun h77 => ?_) (fun h78 => ?_)))
   · refine qr (oN 1 [(31, .q p0 0)] [3, 2, 0] ?_)
     obtain ⟨t79, h80, h81⟩ := bS h77
     refine JO_callC rfl (by kernel_rfl) (f := 172) (args := fun γ => #[(SV.q p0 0).den []]) (fun γ => by kernel_rfl) (x0 := CurD.mk xb0 t35.2.1 t35.2.2) (x1 := CurD.mk xb0 t79.2.1 t79.2.2) (Rr := [SlRes 158 ([Event.mk 1 5, Event.mk 3 (w64 (30 + t29.1))] : List Event) y33.1 y33.2, SlRes 156 t25.1 y28.1 y28.2]) rfl hs0 (fun γ w hs => (by have vv := c_spec_l18Events (p0 := p0) (W := w) h80 (hs0.kept hs.kept); exact vv)) (fun (y82 : AC) => [(32, .v (.slice y82.1 t79.1.length y82.2)), (31, .q p0 0), (3, .p 1 0), (2, .p 0 0), (0, .q p0 0)]) (fun y82 => by kernel_rfl) (fun y82 => ?_)
     refine oB 2 [] [3, 2, 0] [(36, [.int .i64 0, .int .i64 0, .slice none 0 0, .slice none 0 0]), (36, (eMember (Member.mk t21.1 5 t25.1 t79.1) (y28, y82)))] ?_
     exact oe (mp ((t79.2.1, t79.2.2, t79.1), (y82.1, y82.2)) h81 [3, 2, 0] [3, 0, 0] 2)
   exact qk (mp ((t35.2.1, t35.2.2, ([Event.mk 1 5, Event.mk 3 (w64 (30 + t29.1))] : List Event)), (y33.1, y33.2)) h78 [3, 2, 0] [2, 1, 0] 2)
 have h61 := (congrFun hk60 _).symm.trans h61p
 refine bn (nt (qs (qr (oB 2 [] [2, 0] [(36, (eMember (Member.mk t21.1 5 t25.1 y58.1.2.2) (y28, y58.2))), (36, (eMember (Member.mk t21.1 5 t25.1 y58.1.2.2) (y28, y58.2)))] ?_))))
 refine oe (nt (qe (rt [vMember (Member.mk t21.1 5 t25.1 y58.1.2.2) (y28, y58.2)] (fun γ w hs => ?_))))
 rw [← sI h61]
 exact hs.curPost hg (y28, y58.2) (is := [2, 0, 0]) rfl

theorem c_spec_l02Abs {W : World} {x0 : Int} {r : Int} (h : spec_l02Abs x0 = some r)  :
    Gives0 Tryz.prog 207 #[.int .i64 x0] W (.int .i64 r) := by
 unfold spec_l02Abs at h
 refine en Tryz.func207 Tryz.ntmps207 ?_
 refine qs (qr (oN 1 [] [0] ?_))
 refine oe (nt (qs (qs (qr (oN 2 [(4, vb (decide (x0 < 0)))] [0] ?_)))))
 refine oe (nt (cC h (fun h22 => ?_) (fun h23 => ?_)))
 · refine qs (qr (oN 3 [(2, vi (w64 (0 - x0)))] [] ?_))
   refine oe (nt (qe (nr ?_)))
   obtain rfl := sI h22
   exact re [.int .i64 (w64 (0 - x0))]
 refine qk (nt (qs (qr (oN 2 [(2, vi x0)] [] ?_))))
 refine oe (nt (qe ?_))
 obtain rfl := sI h23
 exact re [.int .i64 x0]

theorem c_spec_l02Gcd {W : World} {x0 : Int} {x1 : Int} {r : Int} (h : spec_l02Gcd x0 x1 = some r)  :
    Gives0 Tryz.prog 206 #[.int .i64 x0, .int .i64 x1] W (.int .i64 r) := by
 unfold spec_l02Gcd at h
 refine en Tryz.func206 Tryz.ntmps206 ?_
 refine qs (qr (oN 1 [] [0, 1] ?_))
 refine oe (nt (qs ?_))
 obtain ⟨r24, hL25, h26⟩ := bS h
 obtain ⟨k27, hk28, h26⟩ := brkS h26
 refine JC_cutP (τ := (Int) × (Unit)) (fun y => k27 y.1 = some r) (fun y32 => [(0, vi y32.1)]) (fun y32 => []) (fun y32 => []) ?_ (fun y32 h33p => ?_)
 · refine qb (lp Unit hL25 (fun s21 y22 => [(0, vi s21.1), (1, vi s21.2)]) (fun s21 y22 => []) (fun s21 y22 => []) () [0, 1] [] 0 (fun s21 y22 t23 h29 hd30 => ?_))
   refine qs (qs (qr (oN 2 [(7, vb (s21.2 != 0))] [0, 1] ?_)))
   refine oe (nt (cC h29 (fun h35 => ?_) (fun h36 => ?_)))
   · refine qk (nt (qb (qs (qr (oN 2 [(9, vi s21.2), (8, vi s21.1)] [1] ?_)))))
     obtain ⟨u39, hz38, h37⟩ := bS h35
     refine JO_div rfl (by kernel_rfl) (op := .rem) (k := .i64) (x := s21.1) (y := s21.2) (by kernel_rfl) (nz_some hz38) rfl ?_
     refine oN 1 [(5, vi (Int.tmod s21.1 s21.2))] [1] ?_
     refine oe (nt (qs (qr (oN 2 [(0, vi s21.2)] [5] ?_))))
     refine oe (nt (qr (oN 2 [(1, vi (Int.tmod s21.1 s21.2))] [0] ?_)))
     exact oe (bn (ct h37 () [0, 1] [] 0))
   refine qx (nx (nx (bh ?_)))
   have h40 := leafB hd30 h36 h26
   exact mp (s21.1, ()) h40 [0] [] 0
 have h33 := (congrFun hk28 _).symm.trans h33p
 refine nt (qs (qr (oN 2 [(4, vi y32.1)] [] ?_)))
 refine oe (nt (qe ?_))
 obtain rfl := sI h33
 exact re [.int .i64 y32.1]

theorem c_spec_FracOk {W : World} {x0 : Frac} {r : Bool} (h : spec_FracOk x0 = some r)  :
    Gives0 Tryz.prog 195 #[vFrac x0] W (.bool r) := by
 unfold spec_FracOk at h
 refine en Tryz.func195 Tryz.ntmps195 ?_
 refine qs (qr (oB 2 [(1, .p 0 0)] [] [(133, (eFrac x0))] ?_))
 refine oe (nt (qs ?_))
 obtain ⟨p21, hE22, h23⟩ := bS h
 refine JC_cut (τ := Unit) (fun _ => [(2, vb p21)]) (fun _ => [(133, (eFrac x0))]) (fun _ => []) ?_ (fun _ => ?_)
 · refine JC_quiet (by kernel_rfl) (by kernel_rfl) ?_
   refine qN 2 [(4, vi x0.Den)] [1] ?_
   obtain ⟨t24, h25, h26⟩ := bS hE22
   refine q0 (fun γ w hs => c_spec_l01In h25) ?_
   refine qN 1 [(6, vb t24)] [1] ?_
   refine qS 6 h26 (fun h29 => ?_) (fun h30 => ?_)
   · refine qN 2 [(8, vi x0.Num)] [6, 1] ?_
     obtain ⟨t31, h32, h33⟩ := bS h29
     refine q0 (fun γ w hs => c_spec_l01In h32) ?_
     refine qN 2 [(11, vb t31)] [1] ?_
     refine qS 11 h33 (fun h36 => ?_) (fun h37 => ?_)
     · refine qN 2 [(13, vi x0.Num)] [11, 1] ?_
       obtain ⟨t38, h39, h40⟩ := bS h36
       refine q0 (fun γ w hs => c_spec_l02Abs h39) ?_
       refine qN 2 [(16, vi x0.Den)] [14, 11] ?_
       obtain ⟨t42, h43, h44⟩ := bS h40
       refine q0 (fun γ w hs => c_spec_l02Gcd h43) ?_
       refine qN 3 [(2, vb (t42 == 1))] [] ?_
       refine qz ?_
       obtain rfl := sI h44
       exact mt () [2] [] 1
     refine qN 9 [(2, vb false)] [] ?_
     refine qz ?_
     obtain rfl := sI h37
     exact mt () [2] [] 1
   refine qN 14 [(2, vb false)] [] ?_
   refine qz ?_
   obtain rfl := sI h30
   exact mt () [2] [] 1
 refine nt (qe ?_)
 obtain rfl := sI h23
 exact re [.bool p21]

theorem c_spec_l02Make {W : World} {x0 : Int} {x1 : Int} {r : Frac × Bool} (h : spec_l02Make x0 x1 = some r)  :
    Gives0 Tryz.prog 194 #[.int .i64 x0, .int .i64 x1] W (.tuple #[vFrac r.1, .bool r.2]) := by
 unfold spec_l02Make at h
 refine en Tryz.func194 Tryz.ntmps194 ?_
 refine qs (qr (oB 2 [(4, .p 0 0)] [0, 1] [(133, (eFrac (Frac.mk 0 0)))] ?_))
 refine oe (nt (qs (qs (qr (oN 2 [(9, vb (decide (x1 < 0)))] [4, 0, 1] ?_)))))
 refine oe (nt ?_)
 obtain ⟨k24, hk25, h49⟩ := jS h
 refine JC_cutP (τ := (Int × Int) × (Unit)) (fun y => k24 y.1 = some r) (fun y23 => [(4, .p 0 0), (0, vi y23.1.1), (1, vi y23.1.2)]) (fun y23 => [(133, (eFrac (Frac.mk 0 0)))]) (fun y23 => []) ?_ (fun y23 h26p => ?_)
 · refine cC h49 (fun h51 => ?_) (fun h52 => ?_)
   · refine qs (qr (oN 3 [(0, vi (w64 (0 - x0)))] [4, 1] ?_))
     refine oe (nt (qr (oN 3 [(1, vi (w64 (0 - x1)))] [0, 4] ?_)))
     exact oe (mp ((w64 (0 - x0), w64 (0 - x1)), ()) h51 [4, 0, 1] [] 1)
   exact qk (mp ((x0, x1), ()) h52 [4, 0, 1] [] 1)
 have h26 := (congrFun hk25 _).symm.trans h26p
 refine nt (qs (qr (oN 1 [(14, vi y23.1.1)] [4, 0, 1] ?_)))
 obtain ⟨t27, h28, h29⟩ := bS h26
 refine k0 (fun γ w hs => c_spec_l02Abs h28) ?_
 refine oN 1 [(16, vi y23.1.2)] [15, 4, 0, 1] ?_
 obtain ⟨t31, h32, h33⟩ := bS h29
 refine k0 (fun γ w hs => c_spec_l02Gcd h32) ?_
 refine oN 1 [(6, vi t31)] [4, 0, 1] ?_
 refine oe (nt (qs ?_))
 obtain ⟨u37, hz36, h35⟩ := bS h33
 obtain ⟨u40, hz39, h38⟩ := bS h35
 refine JC_cut (τ := Unit) (fun _ => [(7, .p 1 0), (4, .p 0 0)]) (fun _ => [(133, (eFrac (Frac.mk 0 0))), (133, (eFrac (Frac.mk (w64 (Int.tdiv y23.1.1 t31)) (w64 (Int.tdiv y23.1.2 t31)))))]) (fun _ => []) ?_ (fun _ => ?_)
 · refine jw [6, 4, 0, 1] [] ?_
   refine JC_heldN (ks := [0]) (Rk := []) 9 (by kernel_rfl) (by kernel_rfl) ?_
   refine htq 0 (vi y23.1.1) [] ?_
   refine hk [18, 6, 4, 1] ?_
   refine htq 1 (vi t31) [] ?_
   refine ht 2 (vi (w64 (Int.tdiv y23.1.1 t31))) [] (div_held (op := .quo) (k := .i64) (x := y23.1.1) (y := t31) (by kernel_rfl) (nz_some hz36)) ?_
   refine hk [20, 6, 4, 1] ?_
   refine htq 3 (vi y23.1.2) [] ?_
   refine hk [21, 20, 6, 4] ?_
   refine htq 4 (vi t31) [] ?_
   refine hk [22, 21, 20, 4] ?_
   refine ht 5 (vi (w64 (Int.tdiv y23.1.2 t31))) [] (div_held (op := .quo) (k := .i64) (x := y23.1.2) (y := t31) (by kernel_rfl) (nz_some hz39)) ?_
   refine hk [23, 20, 4] ?_
   refine htq 6 (.v (vFrac (Frac.mk (w64 (Int.tdiv y23.1.1 t31)) (w64 (Int.tdiv y23.1.2 t31))))) [] ?_
   refine hk [24, 4] ?_
   refine ha1 7 ?_
   refine hi (fun γ0 δ hm => ?_)
   refine gs [(7, .p 1 0), (24, .v (vFrac (Frac.mk (w64 (Int.tdiv y23.1.1 t31)) (w64 (Int.tdiv y23.1.2 t31))))), (4, .p 0 0)] [(133, (eFrac (Frac.mk 0 0))), (133, (eFrac (Frac.mk 0 0)))] (fun δ2 => ?_)
   refine gd hm [7, 24, 4] [] ?_
   refine ha1 8 ?_
   refine hi (fun γ0 δ hm => ?_)
   refine gs [(7, .p 1 0), (24, .v (vFrac (Frac.mk (w64 (Int.tdiv y23.1.1 t31)) (w64 (Int.tdiv y23.1.2 t31))))), (4, .p 0 0)] [(133, (eFrac (Frac.mk 0 0))), (133, (eFrac (Frac.mk (w64 (Int.tdiv y23.1.1 t31)) (w64 (Int.tdiv y23.1.2 t31)))))] (fun δ2 => ?_)
   refine gd hm [7, 4] [] ?_
   exact hd () [7, 4] [] 2
 refine nt (qs (qs (qr (oN 1 [(25, .v (vFrac (Frac.mk (w64 (Int.tdiv y23.1.1 t31)) (w64 (Int.tdiv y23.1.2 t31)))))] [7, 4] ?_))))
 obtain ⟨t42, h43, h44⟩ := bS h38
 refine k0 (fun γ w hs => c_spec_FracOk h43) ?_
 refine oN 1 [(27, vb (!t42))] [7, 4] ?_
 refine oe (nt (cC h44 (fun h47 => ?_) (fun h48 => ?_)))
 · refine qs (qr (oN 3 [(5, vb false)] [4] ?_))
   refine oe (nt (qe (nr ?_)))
   obtain rfl := sI h47
   exact re [vFrac (Frac.mk 0 0), .bool false]
 refine qk (nt (qs (qr (oB 3 [(5, vb true)] [4] [(133, (eFrac (Frac.mk (w64 (Int.tdiv y23.1.1 t31)) (w64 (Int.tdiv y23.1.2 t31))))), (133, (eFrac (Frac.mk (w64 (Int.tdiv y23.1.1 t31)) (w64 (Int.tdiv y23.1.2 t31)))))] ?_))))
 refine oe (nt (qe ?_))
 obtain rfl := sI h48
 exact re [vFrac (Frac.mk (w64 (Int.tdiv y23.1.1 t31)) (w64 (Int.tdiv y23.1.2 t31))), .bool true]

theorem c_spec_FracNew {W : World} {x0 : Int} {x1 : Int} {r : Frac × Bool} (h : spec_FracNew x0 x1 = some r)  :
    Gives0 Tryz.prog 161 #[.int .i64 x0, .int .i64 x1] W (.tuple #[vFrac r.1, .bool r.2]) := by
 unfold spec_FracNew at h
 refine en Tryz.func161 Tryz.ntmps161 ?_
 refine qs (qr (oB 2 [(4, .p 0 0)] [0, 1] [(133, (eFrac (Frac.mk 0 0)))] ?_))
 refine oe (nt (qs (qs ?_)))
 obtain ⟨p21, hE22, h23⟩ := bS h
 refine JC_cut (τ := Unit) (fun _ => [(0, vi x0), (1, vi x1), (4, .p 0 0), (17, vb p21)]) (fun _ => [(133, (eFrac (Frac.mk 0 0)))]) (fun _ => []) ?_ (fun _ => ?_)
 · refine qr (oN 3 [(8, vb (x1 == 0))] [4, 0, 1] ?_)
   refine oS 8 hE22 (fun h25 => ?_) (fun h26 => ?_)
   · refine oN 9 [(17, vb true)] [4, 0, 1] ?_
     refine oe ?_
     obtain rfl := sI h25
     exact mt () [0, 1, 4, 17] [] 1
   refine oN 1 [(9, vi x0)] [8, 4, 0, 1] ?_
   obtain ⟨t27, h28, h29⟩ := bS h26
   refine k0 (fun γ w hs => c_spec_l01In h28) ?_
   refine oN 3 [(13, vb (!t27))] [4, 0, 1] ?_
   refine oS 13 h29 (fun h32 => ?_) (fun h33 => ?_)
   · refine oN 4 [(17, vb true)] [4, 0, 1] ?_
     refine oe ?_
     obtain rfl := sI h32
     exact mt () [0, 1, 4, 17] [] 1
   refine oN 1 [(14, vi x1)] [13, 4, 0, 1] ?_
   obtain ⟨t34, h35, h36⟩ := bS h33
   refine k0 (fun γ w hs => c_spec_l01In h35) ?_
   refine oN 2 [(17, vb (!t34))] [4, 0, 1] ?_
   refine oe ?_
   obtain rfl := sI h36
   exact mt () [0, 1, 4, 17] [] 1
 refine nt (cC h23 (fun h39 => ?_) (fun h40 => ?_))
 · refine qs (qr (oN 3 [(5, vb false)] [4] ?_))
   refine oe (nt (qe (nr ?_)))
   obtain rfl := sI h39
   exact re [vFrac (Frac.mk 0 0), .bool false]
 refine qk (nt (qs (qr (oN 2 [(20, vi x1), (19, vi x0)] [4] ?_))))
 obtain ⟨t41, h42, h43⟩ := bS h40
 refine k0 (fun γ w hs => c_spec_l02Make h42) ?_
 refine oB 4 [(5, vb t41.2)] [4] [(133, (eFrac t41.1))] ?_
 refine oe (nt (qe ?_))
 obtain rfl := sI h43
 exact re [vFrac t41.1, .bool t41.2]

theorem c_spec_l22Rule {W : World} {xb0 : List U8} {xi0 xh0 : Int} {p0 ca0 : Option Addr} {cc0 : Nat} {r : Rule × Int × Int} (h : spec_l22Rule xb0 xi0 xh0 = some r) (hv0_0 : SlView W xb0 ca0 cc0) :
    GivesC Tryz.prog 138 116 #[(SV.q p0 0).den []] W (CurD.mk xb0 xi0 xh0) p0 ca0 cc0 (CurD.mk xb0 r.2.1 r.2.2) (fun y : AC => vRule r.1 y) (fun y => [SlRes 154 r.1.Nodes y.1 y.2]) := by
 unfold spec_l22Rule at h
 refine enterC [.q p0 0] (args := [(SV.q p0 0).den []]) hv0_0 (by kernel_rfl) (by kernel_rfl) Tryz.func116 rfl Tryz.ntmps116 (by kernel_rfl) (fun g hg hs0 => ?_)
 refine qs (qr (oB 1 [(2, .p 0 0)] [0] [(76, (eRule (Rule.mk 0 0 0 0 0 0 ([] : List Node)) (none, 0)))] ?_))
 refine oe (nt (qs (qr (oN 1 [(8, .q p0 0)] [2, 0] ?_))))
 obtain ⟨t21, h22, h23⟩ := bS h
 refine JO_callC rfl (by kernel_rfl) (f := 50) (args := fun γ => #[(SV.q p0 0).den [], .int .i64 9]) (fun γ => by kernel_rfl) (x0 := CurD.mk xb0 xi0 xh0) (x1 := CurD.mk xb0 t21.2.1 t21.2.2) (Rr := []) rfl hs0 (fun γ w hs => (by have vv := c_spec_l01Below (p0 := p0) (W := w) h22 (hs0.kept hs.kept); exact vv)) (fun (y24 : Unit) => [(9, vi t21.1), (8, .q p0 0), (2, .p 0 0), (0, .q p0 0)]) (fun y24 => by kernel_rfl) (fun y24 => ?_)
 refine oN 1 [(10, vi (w64 (1 + t21.1)))] [2, 0] ?_
 obtain ⟨t25, h26, h27⟩ := bS h23
 refine k0 (fun γ w hs => c_spec_FracNew h26) ?_
 refine oB 6 [(3, .p 1 0)] [2, 0] [(76, (eRule (Rule.mk 0 0 0 0 0 0 ([] : List Node)) (none, 0))), (133, (eFrac t25.1))] ?_
 refine oe (nt (qs (qr (oN 6 [(19, .v (vNode (Node.mk 5 2 3 0 (Frac.mk 0 0)))), (18, .v (vNode (Node.mk 2 1 0 0 (Frac.mk 0 0)))), (17, .v (vNode (Node.mk 5 0 1 0 (Frac.mk 0 0)))), (16, .v (vNode (Node.mk 1 0 0 0 t25.1))), (14, .v (vNode (Node.mk 2 0 0 0 (Frac.mk 0 0))))] [2, 0] ?_))))
 refine ob [] [CurRes 138 (CurD.mk xb0 t21.2.1 t21.2.2) p0 ca0 cc0] 154 5 [.int .i64 2, .int .i64 0, .int .i64 0, .int .i64 0, .int .i64 0, .int .i64 0, .int .i64 1, .int .i64 0, .int .i64 0, .int .i64 0, .int .i64 t25.1.Num, .int .i64 t25.1.Den, .int .i64 5, .int .i64 0, .int .i64 1, .int .i64 0, .int .i64 0, .int .i64 0, .int .i64 2, .int .i64 1, .int .i64 0, .int .i64 0, .int .i64 0, .int .i64 0, .int .i64 5, .int .i64 2, .int .i64 3, .int .i64 0, .int .i64 0, .int .i64 0] ([Node.mk 2 0 0 0 (Frac.mk 0 0), Node.mk 1 0 0 0 t25.1, Node.mk 5 0 1 0 (Frac.mk 0 0), Node.mk 2 1 0 0 (Frac.mk 0 0), Node.mk 5 2 3 0 (Frac.mk 0 0)] : List Node) (own_flat (by kernel_rfl)) (fun y29 => ?_)
 refine oN 1 [(5, .v (.slice y29.1 ([Node.mk 2 0 0 0 (Frac.mk 0 0), Node.mk 1 0 0 0 t25.1, Node.mk 5 0 1 0 (Frac.mk 0 0), Node.mk 2 1 0 0 (Frac.mk 0 0), Node.mk 5 2 3 0 (Frac.mk 0 0)] : List Node).length y29.2))] [2, 0] ?_
 refine oe (nt (qs (qs (qr (oN 1 [(21, .q p0 0)] [5, 2, 0] ?_)))))
 refine or_ [1, 0] ?_
 obtain ⟨t31, h32, h33⟩ := bS h27
 refine JO_callC rfl (by kernel_rfl) (f := 117) (args := fun γ => #[(SV.q p0 0).den [], .int .i64 2]) (fun γ => by kernel_rfl) (x0 := CurD.mk xb0 t21.2.1 t21.2.2) (x1 := CurD.mk xb0 t31.2.1 t31.2.2) (Rr := [SlRes 154 ([Node.mk 2 0 0 0 (Frac.mk 0 0), Node.mk 1 0 0 0 t25.1, Node.mk 5 0 1 0 (Frac.mk 0 0), Node.mk 2 1 0 0 (Frac.mk 0 0), Node.mk 5 2 3 0 (Frac.mk 0 0)] : List Node) y29.1 y29.2]) rfl hs0 (fun γ w hs => (by have vv := c_spec_l01Once (p0 := p0) (W := w) h32 (hs0.kept hs.kept); exact vv)) (fun (y34 : Unit) => [(22, vb t31.1), (21, .q p0 0), (5, .v (.slice y29.1 ([Node.mk 2 0 0 0 (Frac.mk 0 0), Node.mk 1 0 0 0 t25.1, Node.mk 5 0 1 0 (Frac.mk 0 0), Node.mk 2 1 0 0 (Frac.mk 0 0), Node.mk 5 2 3 0 (Frac.mk 0 0)] : List Node).length y29.2)), (2, .p 0 0), (0, .q p0 0)]) (fun y34 => by kernel_rfl) (fun y34 => ?_)
 refine oe (nt ?_)
 obtain ⟨k56, hk57, h103⟩ := jS h33
 refine JC_cutP (τ := ((List Node) × Int × Int) × (AC)) (fun y => k56 y.1 = some r) (fun y55 => [(5, .v (.slice y55.2.1 y55.1.1.length y55.2.2)), (2, .p 0 0), (0, .q p0 0)]) (fun y55 => [(76, (eRule (Rule.mk 0 0 0 0 0 0 ([] : List Node)) (none, 0))), (133, (eFrac t25.1))]) (fun y55 => [SlRes 154 y55.1.1 y55.2.1 y55.2.2, CurRes 138 (CurD.mk xb0 y55.1.2.1 y55.1.2.2) p0 ca0 cc0]) ?_ (fun y55 h58p => ?_)
 · refine cC h103 (fun h105 => ?_) (fun h106 => ?_)
   · refine qr (oN 2 [(24, .q p0 0), (23, .v (.slice y29.1 ([Node.mk 2 0 0 0 (Frac.mk 0 0), Node.mk 1 0 0 0 t25.1, Node.mk 5 0 1 0 (Frac.mk 0 0), Node.mk 2 1 0 0 (Frac.mk 0 0), Node.mk 5 2 3 0 (Frac.mk 0 0)] : List Node).length y29.2))] [2, 0] ?_)
     refine ob [] [CurRes 138 (CurD.mk xb0 t31.2.1 t31.2.2) p0 ca0 cc0, SlRes 154 ([Node.mk 2 0 0 0 (Frac.mk 0 0), Node.mk 1 0 0 0 t25.1, Node.mk 5 0 1 0 (Frac.mk 0 0), Node.mk 2 1 0 0 (Frac.mk 0 0), Node.mk 5 2 3 0 (Frac.mk 0 0)] : List Node) y29.1 y29.2] 3 3 [.int .i64 2, .int .i64 3, .int .i64 4] ([2, 3, 4] : List Int) (own_flat (by kernel_rfl)) (fun y107 => ?_)
     refine or_ [1, 0, 0] ?_
     obtain ⟨t109, h110, h111⟩ := bS h105
     refine JO_callC rfl (by kernel_rfl) (f := 175) (args := fun γ => #[(SV.q p0 0).den [], .slice y107.1 ([2, 3, 4] : List Int).length y107.2]) (fun γ => by kernel_rfl) (x0 := CurD.mk xb0 t31.2.1 t31.2.2) (x1 := CurD.mk xb0 t109.2.1 t109.2.2) (Rr := [SlRes 3 ([2, 3, 4] : List Int) y107.1 y107.2, SlRes 154 ([Node.mk 2 0 0 0 (Frac.mk 0 0), Node.mk 1 0 0 0 t25.1, Node.mk 5 0 1 0 (Frac.mk 0 0), Node.mk 2 1 0 0 (Frac.mk 0 0), Node.mk 5 2 3 0 (Frac.mk 0 0)] : List Node) y29.1 y29.2]) rfl hs0 (fun γ w hs => (by have vv := c_spec_l01PickInt (p0 := p0) (W := w) h110 (hs0.kept hs.kept) (hs.seenR 0 1 rfl rfl rfl); exact vv)) (fun (y112 : Unit) => [(26, vi t109.1), (25, .v (.slice y107.1 ([2, 3, 4] : List Int).length y107.2)), (24, .q p0 0), (23, .v (.slice y29.1 ([Node.mk 2 0 0 0 (Frac.mk 0 0), Node.mk 1 0 0 0 t25.1, Node.mk 5 0 1 0 (Frac.mk 0 0), Node.mk 2 1 0 0 (Frac.mk 0 0), Node.mk 5 2 3 0 (Frac.mk 0 0)] : List Node).length y29.2)), (2, .p 0 0), (0, .q p0 0)]) (fun y112 => by kernel_rfl) (fun y112 => ?_)
     refine oN 2 [(28, .q p0 0), (27, .v (vNode (Node.mk 2 t109.1 0 0 (Frac.mk 0 0))))] [23, 2, 0] ?_
     refine ob [] [CurRes 138 (CurD.mk xb0 t109.2.1 t109.2.2) p0 ca0 cc0, SlRes 3 ([2, 3, 4] : List Int) y107.1 y107.2, SlRes 154 ([Node.mk 2 0 0 0 (Frac.mk 0 0), Node.mk 1 0 0 0 t25.1, Node.mk 5 0 1 0 (Frac.mk 0 0), Node.mk 2 1 0 0 (Frac.mk 0 0), Node.mk 5 2 3 0 (Frac.mk 0 0)] : List Node) y29.1 y29.2] 3 3 [.int .i64 3, .int .i64 8, .int .i64 5] ([3, 8, 5] : List Int) (own_flat (by kernel_rfl)) (fun y113 => ?_)
     refine or_ [1, 0, 0, 0] ?_
     obtain ⟨t115, h116, h117⟩ := bS h111
     refine JO_callC rfl (by kernel_rfl) (f := 175) (args := fun γ => #[(SV.q p0 0).den [], .slice y113.1 ([3, 8, 5] : List Int).length y113.2]) (fun γ => by kernel_rfl) (x0 := CurD.mk xb0 t109.2.1 t109.2.2) (x1 := CurD.mk xb0 t115.2.1 t115.2.2) (Rr := [SlRes 3 ([3, 8, 5] : List Int) y113.1 y113.2, SlRes 3 ([2, 3, 4] : List Int) y107.1 y107.2, SlRes 154 ([Node.mk 2 0 0 0 (Frac.mk 0 0), Node.mk 1 0 0 0 t25.1, Node.mk 5 0 1 0 (Frac.mk 0 0), Node.mk 2 1 0 0 (Frac.mk 0 0), Node.mk 5 2 3 0 (Frac.mk 0 0)] : List Node) y29.1 y29.2]) rfl hs0 (fun γ w hs => (by have vv := c_spec_l01PickInt (p0 := p0) (W := w) h116 (hs0.kept hs.kept) (hs.seenR 0 1 rfl rfl rfl); exact vv)) (fun (y118 : Unit) => [(30, vi t115.1), (29, .v (.slice y113.1 ([3, 8, 5] : List Int).length y113.2)), (28, .q p0 0), (27, .v (vNode (Node.mk 2 t109.1 0 0 (Frac.mk 0 0)))), (23, .v (.slice y29.1 ([Node.mk 2 0 0 0 (Frac.mk 0 0), Node.mk 1 0 0 0 t25.1, Node.mk 5 0 1 0 (Frac.mk 0 0), Node.mk 2 1 0 0 (Frac.mk 0 0), Node.mk 5 2 3 0 (Frac.mk 0 0)] : List Node).length y29.2)), (2, .p 0 0), (0, .q p0 0)]) (fun y118 => by kernel_rfl) (fun y118 => ?_)
     refine oN 1 [(31, .v (vNode (Node.mk t115.1 4 5 0 (Frac.mk 0 0))))] [27, 23, 2, 0] ?_
     refine ob [] [CurRes 138 (CurD.mk xb0 t115.2.1 t115.2.2) p0 ca0 cc0, SlRes 3 ([3, 8, 5] : List Int) y113.1 y113.2, SlRes 3 ([2, 3, 4] : List Int) y107.1 y107.2, SlRes 154 ([Node.mk 2 0 0 0 (Frac.mk 0 0), Node.mk 1 0 0 0 t25.1, Node.mk 5 0 1 0 (Frac.mk 0 0), Node.mk 2 1 0 0 (Frac.mk 0 0), Node.mk 5 2 3 0 (Frac.mk 0 0)] : List Node) y29.1 y29.2] 154 2 [.int .i64 2, .int .i64 t109.1, .int .i64 0, .int .i64 0, .int .i64 0, .int .i64 0, .int .i64 t115.1, .int .i64 4, .int .i64 5, .int .i64 0, .int .i64 0, .int .i64 0] ([Node.mk 2 t109.1 0 0 (Frac.mk 0 0), Node.mk t115.1 4 5 0 (Frac.mk 0 0)] : List Node) (own_flat (by kernel_rfl)) (fun y119 => ?_)
     refine JO_res (R' := [SlRes 154 ([Node.mk 2 0 0 0 (Frac.mk 0 0), Node.mk 1 0 0 0 t25.1, Node.mk 5 0 1 0 (Frac.mk 0 0), Node.mk 2 1 0 0 (Frac.mk 0 0), Node.mk 5 2 3 0 (Frac.mk 0 0)] : List Node) y29.1 y29.2, SlRes 154 ([Node.mk 2 t109.1 0 0 (Frac.mk 0 0), Node.mk t115.1 4 5 0 (Frac.mk 0 0)] : List Node) y119.1 y119.2, CurRes 138 (CurD.mk xb0 t115.2.1 t115.2.2) p0 ca0 cc0, SlRes 3 ([3, 8, 5] : List Int) y113.1 y113.2, SlRes 3 ([2, 3, 4] : List Int) y107.1 y107.2]) [4, 0, 0, 0, 0] (by kernel_rfl) ?_
     obtain ⟨l122, hm123, h124⟩ := bS h117
     refine oa 74 y119.2 Tryz.t154 (vNode (Node.mk 0 0 0 0 (Frac.mk 0 0))) (fun γ w hs => ⟨y119.2, (hs.view 1 rfl)⟩) hm123 (fun y121 => ?_)
     refine oN 1 [(5, .v (.slice y121.1 l122.length y121.2))] [2, 0] ?_
     exact oe (mp ((l122, t115.2.1, t115.2.2), (y121.1, y121.2)) h124 [5, 2, 0] [0, 1] 2)
   exact qk (mp ((([Node.mk 2 0 0 0 (Frac.mk 0 0), Node.mk 1 0 0 0 t25.1, Node.mk 5 0 1 0 (Frac.mk 0 0), Node.mk 2 1 0 0 (Frac.mk 0 0), Node.mk 5 2 3 0 (Frac.mk 0 0)] : List Node), t31.2.1, t31.2.2), (y29.1, y29.2)) h106 [5, 2, 0] [1, 0] 2)
 have h58 := (congrFun hk57 _).symm.trans h58p
 refine nt (qs (qr (oN 1 [(34, .q p0 0)] [5, 2, 0] ?_)))
 refine or_ [1, 0] ?_
 obtain ⟨t59, h60, h61⟩ := bS h58
 refine JO_callC rfl (by kernel_rfl) (f := 50) (args := fun γ => #[(SV.q p0 0).den [], .int .i64 4]) (fun γ => by kernel_rfl) (x0 := CurD.mk xb0 y55.1.2.1 y55.1.2.2) (x1 := CurD.mk xb0 t59.2.1 t59.2.2) (Rr := [SlRes 154 y55.1.1 y55.2.1 y55.2.2]) rfl hs0 (fun γ w hs => (by have vv := c_spec_l01Below (p0 := p0) (W := w) h60 (hs0.kept hs.kept); exact vv)) (fun (y62 : Unit) => [(35, vi t59.1), (34, .q p0 0), (5, .v (.slice y55.2.1 y55.1.1.length y55.2.2)), (2, .p 0 0), (0, .q p0 0)]) (fun y62 => by kernel_rfl) (fun y62 => ?_)
 refine oB 5 [(6, .p 2 0)] [2, 0] [(76, (eRule (Rule.mk 0 0 0 0 0 0 ([] : List Node)) (none, 0))), (133, (eFrac t25.1)), (76, (eRule (Rule.mk 1 0 3600 3600 0 (w64 (1 + t59.1)) y55.1.1) y55.2))] ?_
 refine oe (nt (qs (qs (qr (oN 1 [(39, .q p0 0)] [6, 2, 0] ?_)))))
 obtain ⟨t63, h64, h65⟩ := bS h61
 refine JO_callC rfl (by kernel_rfl) (f := 117) (args := fun γ => #[(SV.q p0 0).den [], .int .i64 2]) (fun γ => by kernel_rfl) (x0 := CurD.mk xb0 t59.2.1 t59.2.2) (x1 := CurD.mk xb0 t63.2.1 t63.2.2) (Rr := [SlRes 154 y55.1.1 y55.2.1 y55.2.2]) rfl hs0 (fun γ w hs => (by have vv := c_spec_l01Once (p0 := p0) (W := w) h64 (hs0.kept hs.kept); exact vv)) (fun (y66 : Unit) => [(40, vb t63.1), (39, .q p0 0), (6, .p 2 0), (2, .p 0 0), (0, .q p0 0)]) (fun y66 => by kernel_rfl) (fun y66 => ?_)
 refine oe (nt ?_)
 obtain ⟨k83, hk84, h86⟩ := jS h65
 refine JC_cutP (τ := (Int × Int × Int × Int × Int) × (Unit)) (fun y => k83 y.1 = some r) (fun y82 => [(6, .p 2 0), (2, .p 0 0), (0, .q p0 0)]) (fun y82 => [(76, (eRule (Rule.mk 0 0 0 0 0 0 ([] : List Node)) (none, 0))), (133, (eFrac t25.1)), (76, (eRule (Rule.mk 1 y82.1.2.2.1 y82.1.2.2.2.1 3600 y82.1.2.2.2.2 (w64 (1 + t59.1)) y55.1.1) y55.2))]) (fun y82 => [SlRes 154 y55.1.1 y55.2.1 y55.2.2, CurRes 138 (CurD.mk xb0 y82.1.1 y82.1.2.1) p0 ca0 cc0]) ?_ (fun y82 h85p => ?_)
 · refine cC h86 (fun h88 => ?_) (fun h89 => ?_)
   · refine qs (qr (oN 1 [(41, .q p0 0)] [6, 2, 0] ?_))
     obtain ⟨t90, h91, h92⟩ := bS h88
     refine JO_callC rfl (by kernel_rfl) (f := 50) (args := fun γ => #[(SV.q p0 0).den [], .int .i64 60]) (fun γ => by kernel_rfl) (x0 := CurD.mk xb0 t63.2.1 t63.2.2) (x1 := CurD.mk xb0 t90.2.1 t90.2.2) (Rr := [SlRes 154 y55.1.1 y55.2.1 y55.2.2]) rfl hs0 (fun γ w hs => (by have vv := c_spec_l01Below (p0 := p0) (W := w) h91 (hs0.kept hs.kept); exact vv)) (fun (y93 : Unit) => [(42, vi t90.1), (41, .q p0 0), (6, .p 2 0), (2, .p 0 0), (0, .q p0 0)]) (fun y93 => by kernel_rfl) (fun y93 => ?_)
     refine oB 2 [] [6, 2, 0] [(76, (eRule (Rule.mk 0 0 0 0 0 0 ([] : List Node)) (none, 0))), (133, (eFrac t25.1)), (76, (eRule (Rule.mk 1 t90.1 3600 3600 0 (w64 (1 + t59.1)) y55.1.1) y55.2))] ?_
     refine oe (nt (qs ?_))
     obtain ⟨t94, h95, h96⟩ := bS h92
     refine JC_cut (τ := Unit) (fun _ => [(6, .p 2 0), (2, .p 0 0), (0, .q p0 0)]) (fun _ => [(76, (eRule (Rule.mk 0 0 0 0 0 0 ([] : List Node)) (none, 0))), (133, (eFrac t25.1)), (76, (eRule (Rule.mk 1 t90.1 (w64 ((w64 (t90.1 + 10)) + t94.1)) 3600 0 (w64 (1 + t59.1)) y55.1.1) y55.2))]) (fun _ => [CurRes 138 (CurD.mk xb0 t94.2.1 t94.2.2) p0 ca0 cc0, SlRes 154 y55.1.1 y55.2.1 y55.2.2]) ?_ (fun _ => ?_)
     · refine jw [6, 2, 0] [0, 0] ?_
       refine JC_heldN (ks := [0, 1]) (Rk := [SlRes 154 y55.1.1 y55.2.1 y55.2.2]) 8 (by kernel_rfl) (by kernel_rfl) ?_
       refine htq 0 (.p 2 1) [1] ?_
       refine htq 3 (.q p0 0) [1] ?_
       refine ha2 1 4 ?_ ?_
       · refine hi (fun γ0 δ hm => ?_)
         refine gs [(45, vi t90.1), (47, .q p0 0), (44, .p 2 1), (6, .p 2 0), (2, .p 0 0), (0, .q p0 0)] [(76, (eRule (Rule.mk 0 0 0 0 0 0 ([] : List Node)) (none, 0))), (133, (eFrac t25.1)), (76, (eRule (Rule.mk 1 t90.1 3600 3600 0 (w64 (1 + t59.1)) y55.1.1) y55.2))] (fun δ2 => ?_)
         refine gd hm [45, 47, 6, 2, 0] [1] ?_
         refine htq 2 (vi (w64 (t90.1 + 10))) [1] ?_
         refine hk [46, 47, 6, 2, 0] ?_
         refine ha1 4 ?_
         refine hi (fun γ0 δ hm => ?_)
         refine JG_callC (by kernel_rfl) (f := 50) (args := #[(SV.q p0 0).den [], .int .i64 60]) (by kernel_rfl) (x0 := CurD.mk xb0 t90.2.1 t90.2.2) (x1 := CurD.mk xb0 t94.2.1 t94.2.2) (Rr := [SlRes 154 y55.1.1 y55.2.1 y55.2.2]) rfl hs0 (fun w hs => (by have vv := c_spec_l01Below (p0 := p0) (W := w) h95 (hs0.kept hs.kept); exact vv)) (fun (y97 : Unit) => [(48, vi t94.1), (46, vi (w64 (t90.1 + 10))), (47, .q p0 0), (6, .p 2 0), (2, .p 0 0), (0, .q p0 0)]) (fun y97 => by kernel_rfl) (fun y97 => ?_)
         refine gn hm [48, 46, 6, 2, 0] [1] ?_
         refine htq 5 (vi (w64 ((w64 (t90.1 + 10)) + t94.1))) [1] ?_
         refine hk [49, 6, 2, 0] ?_
         refine htq 6 (.p 2 2) [1] ?_
         refine ha1 7 ?_
         refine hi (fun γ0 δ hm => ?_)
         refine gs [(50, .p 2 2), (49, vi (w64 ((w64 (t90.1 + 10)) + t94.1))), (6, .p 2 0), (2, .p 0 0), (0, .q p0 0)] [(76, (eRule (Rule.mk 0 0 0 0 0 0 ([] : List Node)) (none, 0))), (133, (eFrac t25.1)), (76, (eRule (Rule.mk 1 t90.1 (w64 ((w64 (t90.1 + 10)) + t94.1)) 3600 0 (w64 (1 + t59.1)) y55.1.1) y55.2))] (fun δ2 => ?_)
         refine gd hm [6, 2, 0] [1] ?_
         exact hd () [6, 2, 0] [0, 0] 3
       · refine hi (fun γ0 δ hm => ?_)
         refine JG_callC (by kernel_rfl) (f := 50) (args := #[(SV.q p0 0).den [], .int .i64 60]) (by kernel_rfl) (x0 := CurD.mk xb0 t90.2.1 t90.2.2) (x1 := CurD.mk xb0 t94.2.1 t94.2.2) (Rr := [SlRes 154 y55.1.1 y55.2.1 y55.2.2]) rfl hs0 (fun w hs => (by have vv := c_spec_l01Below (p0 := p0) (W := w) h95 (hs0.kept hs.kept); exact vv)) (fun (y97 : Unit) => [(48, vi t94.1), (47, .q p0 0), (44, .p 2 1), (6, .p 2 0), (2, .p 0 0), (0, .q p0 0)]) (fun y97 => by kernel_rfl) (fun y97 => ?_)
         refine gn hm [48, 44, 6, 2, 0] [1] ?_
         refine ha1 1 ?_
         refine hi (fun γ0 δ hm => ?_)
         refine gs [(45, vi t90.1), (48, vi t94.1), (44, .p 2 1), (6, .p 2 0), (2, .p 0 0), (0, .q p0 0)] [(76, (eRule (Rule.mk 0 0 0 0 0 0 ([] : List Node)) (none, 0))), (133, (eFrac t25.1)), (76, (eRule (Rule.mk 1 t90.1 3600 3600 0 (w64 (1 + t59.1)) y55.1.1) y55.2))] (fun δ2 => ?_)
         refine gd hm [45, 48, 6, 2, 0] [1] ?_
         refine htq 2 (vi (w64 (t90.1 + 10))) [1] ?_
         refine hk [46, 48, 6, 2, 0] ?_
         refine htq 5 (vi (w64 ((w64 (t90.1 + 10)) + t94.1))) [1] ?_
         refine hk [49, 6, 2, 0] ?_
         refine htq 6 (.p 2 2) [1] ?_
         refine ha1 7 ?_
         refine hi (fun γ0 δ hm => ?_)
         refine gs [(50, .p 2 2), (49, vi (w64 ((w64 (t90.1 + 10)) + t94.1))), (6, .p 2 0), (2, .p 0 0), (0, .q p0 0)] [(76, (eRule (Rule.mk 0 0 0 0 0 0 ([] : List Node)) (none, 0))), (133, (eFrac t25.1)), (76, (eRule (Rule.mk 1 t90.1 (w64 ((w64 (t90.1 + 10)) + t94.1)) 3600 0 (w64 (1 + t59.1)) y55.1.1) y55.2))] (fun δ2 => ?_)
         refine gd hm [6, 2, 0] [1] ?_
         exact hd () [6, 2, 0] [0, 0] 3
     refine nt (qr (oN 1 [(51, .q p0 0)] [6, 2, 0] ?_))
     obtain ⟨t99, h100, h101⟩ := bS h96
     refine JO_callC rfl (by kernel_rfl) (f := 50) (args := fun γ => #[(SV.q p0 0).den [], .int .i64 3]) (fun γ => by kernel_rfl) (x0 := CurD.mk xb0 t94.2.1 t94.2.2) (x1 := CurD.mk xb0 t99.2.1 t99.2.2) (Rr := [SlRes 154 y55.1.1 y55.2.1 y55.2.2]) rfl hs0 (fun γ w hs => (by have vv := c_spec_l01Below (p0 := p0) (W := w) h100 (hs0.kept hs.kept); exact vv)) (fun (y102 : Unit) => [(52, vi t99.1), (51, .q p0 0), (6, .p 2 0), (2, .p 0 0), (0, .q p0 0)]) (fun y102 => by kernel_rfl) (fun y102 => ?_)
     refine oB 3 [] [6, 2, 0] [(76, (eRule (Rule.mk 0 0 0 0 0 0 ([] : List Node)) (none, 0))), (133, (eFrac t25.1)), (76, (eRule (Rule.mk 1 t90.1 (w64 ((w64 (t90.1 + 10)) + t94.1)) 3600 (w64 (1 + t99.1)) (w64 (1 + t59.1)) y55.1.1) y55.2))] ?_
     exact oe (mp ((t99.2.1, t99.2.2, t90.1, w64 ((w64 (t90.1 + 10)) + t94.1), w64 (1 + t99.1)), ()) h101 [6, 2, 0] [1, 0] 3)
   exact qk (mp ((t63.2.1, t63.2.2, 0, 3600, 0), ()) h89 [6, 2, 0] [1, 0] 3)
 have h85 := (congrFun hk84 _).symm.trans h85p
 refine nt (qs (qr (oB 2 [] [2, 0] [(76, (eRule (Rule.mk 1 y82.1.2.2.1 y82.1.2.2.2.1 3600 y82.1.2.2.2.2 (w64 (1 + t59.1)) y55.1.1) y55.2)), (133, (eFrac t25.1)), (76, (eRule (Rule.mk 1 y82.1.2.2.1 y82.1.2.2.2.1 3600 y82.1.2.2.2.2 (w64 (1 + t59.1)) y55.1.1) y55.2))] ?_)))
 refine oe (nt (qe (rt [vRule (Rule.mk 1 y82.1.2.2.1 y82.1.2.2.2.1 3600 y82.1.2.2.2.2 (w64 (1 + t59.1)) y55.1.1) y55.2] (fun γ w hs => ?_))))
 rw [← sI h85]
 exact hs.curPost hg y55.2 (is := [1, 0]) rfl

theorem c_spec_l10Rule {W : World} {x0 : Rule} {a0_0 : Option Addr} {c0_0 : Nat} {r : Rule} (h : spec_l10Rule x0 = some r) (hv0_0 : SlView W x0.Nodes a0_0 c0_0) :
    Gives Tryz.prog 174 #[vRule x0 (a0_0, c0_0)] W (fun y : AC => vRule r y) (fun y => [SlRes 154 r.Nodes y.1 y.2]) := by
 unfold spec_l10Rule at h
 refine en Tryz.func174 Tryz.ntmps174 ?_
 refine qs (qr (oB 2 [(2, .p 1 0), (1, .p 0 0)] [] [(76, (eRule x0 (a0_0, c0_0))), (76, (eRule (Rule.mk 0 0 0 0 0 0 ([] : List Node)) (none, 0)))] ?_))
 refine oe (nt (qs (qr (ob [] [] 154 0 [] ([] : List Node) (own_flat (by kernel_rfl)) (fun y21 => ?_)))))
 refine oN 2 [(5, .v (.slice a0_0 x0.Nodes.length c0_0))] [3, 2, 1] ?_
 obtain ⟨l24, hm25, h26⟩ := bS h
 refine oa 74 c0_0 Tryz.t154 (vNode (Node.mk 0 0 0 0 (Frac.mk 0 0))) (fun γ w hs => ⟨c0_0, (hv0_0.kept hs.kept)⟩) hm25 (fun y23 => ?_)
 refine oB 2 [] [2, 1] [(76, (eRule (Rule.mk x0.Name x0.From x0.To x0.Joined x0.Rank x0.Mode l24) y23)), (76, (eRule (Rule.mk 0 0 0 0 0 0 ([] : List Node)) (none, 0)))] ?_
 refine oe (nt (qs (qr (oB 2 [] [2] [(76, (eRule (Rule.mk x0.Name x0.From x0.To x0.Joined x0.Rank x0.Mode l24) y23)), (76, (eRule (Rule.mk x0.Name x0.From x0.To x0.Joined x0.Rank x0.Mode l24) y23))] ?_))))
 refine oe (nt (qe (rt [vRule (Rule.mk x0.Name x0.From x0.To x0.Joined x0.Rank x0.Mode l24) y23] (fun γ w hs => ?_))))
 rw [← sI h26]
 exact ⟨y23, rfl, hs.kept.toBelow, (hs.takeR (is := [0]) rfl).fresh⟩

theorem c_spec_l10Copy {W : World} {x0 : Book} {a0_0 : Option Addr} {c0_0 : Nat} {r : Book} (h : spec_l10Copy x0 = some r) (hv0_0 : SlView W x0.Rules a0_0 c0_0) :
    Gives Tryz.prog 173 #[vBook x0 (a0_0, c0_0)] W (fun y : AC => vBook r y) (fun y => [SlRes 76 r.Rules y.1 y.2]) := by
 unfold spec_l10Copy at h
 refine en Tryz.func173 Tryz.ntmps173 ?_
 refine qs (qr (oB 2 [(2, .p 1 0), (1, .p 0 0)] [] [(26, (eBook x0 (a0_0, c0_0))), (26, [.slice none 0 0])] ?_))
 refine oe (nt (qs (qr (oB 3 [(3, .p 2 0)] [2, 1] [(26, (eBook x0 (a0_0, c0_0))), (26, [.slice none 0 0]), (26, [.slice none 0 0])] ?_))))
 refine oe (nt (qs (qs (qr (oN 1 [(4, vi 0)] [3, 2, 1] ?_)))))
 refine oe (nt (JC_addnil 76 (List.nil (α := Rule)) rfl ?_))
 obtain ⟨r24, hL25, h26⟩ := bS h
 obtain ⟨k27, hk28, h26⟩ := brkS h26
 refine JC_cutP (τ := ((List Rule)) × (AC)) (fun y => k27 y.1 = some r) (fun y32 => [(3, .p 2 0), (2, .p 1 0)]) (fun y32 => [(26, (eBook x0 (a0_0, c0_0))), (26, [.slice none 0 0]), (26, (eBook (Book.mk y32.1) y32.2))]) (fun y32 => [SlRes 76 y32.1 y32.2.1 y32.2.2]) ?_ (fun y32 h33p => ?_)
 · refine qb (lp AC hL25 (fun s21 y22 => [(4, vi s21.1), (3, .p 2 0), (2, .p 1 0), (1, .p 0 0)]) (fun s21 y22 => [(26, (eBook x0 (a0_0, c0_0))), (26, [.slice none 0 0]), (26, (eBook (Book.mk s21.2) y22))]) (fun s21 y22 => [SlRes 76 s21.2 y22.1 y22.2]) (none, 0) [4, 3, 2, 1] [0] 3 (fun s21 y22 t23 h29 hd30 => ?_))
   refine qs (qs (qr (oN 5 [(10, vb (decide (s21.1 < (x0.Rules.length : Int))))] [4, 3, 2, 1] ?_)))
   refine oe (nt (cC h29 (fun h35 => ?_) (fun h36 => ?_)))
   · refine qk (nt (qs (qb ?_)))
     obtain ⟨x37, hx38, h39⟩ := bS h35
     obtain ⟨_, ⟨a40, c41, rfl, hv42⟩, hc43⟩ := SlView.at hv0_0 (idx_some hx38).2.2
     obtain ⟨t44, h45, h46⟩ := bS h39
     obtain ⟨l50, hm51, h52⟩ := bS h46
     refine JC_cut (τ := AC) (fun y53 => [(4, vi s21.1), (3, .p 2 0), (2, .p 1 0), (1, .p 0 0)]) (fun y53 => [(26, (eBook x0 (a0_0, c0_0))), (26, [.slice none 0 0]), (26, (eBook (Book.mk l50) y53))]) (fun y53 => [SlRes 76 l50 y53.1 y53.2]) ?_ (fun y53 => ?_)
     · refine jw [4, 3, 2, 1] [0] ?_
       refine JC_heldN (ks := [0, 1]) (Rk := []) 12 (by kernel_rfl) (by kernel_rfl) ?_
       refine htq 0 (.p 2 0) [] ?_
       refine htq 2 (.p 0 0) [] ?_
       refine htq 3 (.v (.slice a0_0 x0.Rules.length c0_0)) [] ?_
       refine hk [16, 13, 4, 3, 2, 1] ?_
       refine htq 4 (vi s21.1) [] ?_
       refine ht 5 (.q a0_0 (Int.toNat s21.1 * 7)) [] (index_held (d := a0_0) (m := x0.Rules.length) (j := s21.1) (s := 7) (by kernel_rfl) (fun γ0 w hs => (hv0_0.kept hs.kept)) rfl hx38) ?_
       refine hk [18, 13, 4, 3, 2, 1] ?_
       refine ht 6 (.v (vRule x37 (a40, c41))) [] (loadq_held (t := 76) (d := a0_0) (Int.toNat s21.1 * 7) 0 (by kernel_rfl) (cs := (eRule x37 (a40, c41))) (v := vRule x37 (a40, c41)) (fun γ0 w hs => ⟨(hv0_0.kept hs.kept).ne (idx_some hx38).2.2, hc43.kept hs.kept⟩) (by kernel_rfl)) ?_
       refine hk [19, 13, 4, 3, 2, 1] ?_
       refine ha2 1 7 ?_ ?_
       · refine hi (fun γ0 δ hm => ?_)
         refine gs [(14, .v (.slice y22.1 s21.2.length y22.2)), (19, .v (vRule x37 (a40, c41))), (13, .p 2 0), (4, vi s21.1), (3, .p 2 0), (2, .p 1 0), (1, .p 0 0)] [(26, (eBook x0 (a0_0, c0_0))), (26, [.slice none 0 0]), (26, (eBook (Book.mk s21.2) y22))] (fun δ2 => ?_)
         refine gd hm [14, 19, 4, 3, 2, 1] [] ?_
         refine ha1 7 ?_
         refine hi (fun γ0 δ hm => ?_)
         refine g1 (fun w hs => c_spec_l10Rule h45 (hv42.kept hs.kept)) (fun y47 => ?_)
         refine gn hm [20, 14, 4, 3, 2, 1] [] ?_
         refine ha1 8 ?_
         refine hi (fun γ0 δ hm => ?_)
         refine gb [SlRes 154 t44.Nodes y47.1 y47.2] [SlRes 76 s21.2 y22.1 y22.2] 76 1 [.int .i64 t44.Name, .int .i64 t44.From, .int .i64 t44.To, .int .i64 t44.Joined, .int .i64 t44.Rank, .int .i64 t44.Mode, .slice y47.1 t44.Nodes.length y47.2] ([t44] : List Rule) (own_single (by rintro w Fs ⟨G0, _, rfl, h0, rfl⟩; exact ⟨154, y47.1, y47.2, G0, by simp, rfl, h0⟩)) (fun y48 => ?_)
         refine gn hm [21, 14, 4, 3, 2, 1] [] ?_
         refine ha1 9 ?_
         refine hr_ [1, 0] ?_
         refine hi (fun γ0 δ hm => ?_)
         refine JG_appendR (α := Rule) (by kernel_rfl) (t := 24) (e := 76) (a1 := y22.1) (a2 := y48.1) (c1 := y22.2) (c2 := y48.2) (l1 := s21.2) (l2 := ([t44] : List Rule)) (by kernel_rfl) (i := Tryz.t76) (by kernel_rfl) (z := (vRule (Rule.mk 0 0 0 0 0 0 ([] : List Node)) (none, 0))) (by kernel_rfl) (by kernel_rfl) (by kernel_rfl) (by kernel_rfl) (Rr := []) rfl hm51 _ (fun _ => rfl) (fun y49 => ?_)
         refine gn hm [22, 4, 3, 2, 1] [] ?_
         refine htq 10 (.p 2 0) [] ?_
         refine ha1 11 ?_
         refine hi (fun γ0 δ hm => ?_)
         refine gs [(23, .p 2 0), (22, .v (.slice y49.1 l50.length y49.2)), (4, vi s21.1), (3, .p 2 0), (2, .p 1 0), (1, .p 0 0)] [(26, (eBook x0 (a0_0, c0_0))), (26, [.slice none 0 0]), (26, (eBook (Book.mk l50) y49))] (fun δ2 => ?_)
         refine gd hm [4, 3, 2, 1] [] ?_
         exact hd y49 [4, 3, 2, 1] [0] 3
       · refine hi (fun γ0 δ hm => ?_)
         refine g1 (fun w hs => c_spec_l10Rule h45 (hv42.kept hs.kept)) (fun y47 => ?_)
         refine gn hm [20, 13, 4, 3, 2, 1] [] ?_
         refine ha2 1 8 ?_ ?_
         · refine hi (fun γ0 δ hm => ?_)
           refine gs [(14, .v (.slice y22.1 s21.2.length y22.2)), (20, .v (vRule t44 y47)), (13, .p 2 0), (4, vi s21.1), (3, .p 2 0), (2, .p 1 0), (1, .p 0 0)] [(26, (eBook x0 (a0_0, c0_0))), (26, [.slice none 0 0]), (26, (eBook (Book.mk s21.2) y22))] (fun δ2 => ?_)
           refine gd hm [14, 20, 4, 3, 2, 1] [] ?_
           refine ha1 8 ?_
           refine hi (fun γ0 δ hm => ?_)
           refine gb [SlRes 154 t44.Nodes y47.1 y47.2] [SlRes 76 s21.2 y22.1 y22.2] 76 1 [.int .i64 t44.Name, .int .i64 t44.From, .int .i64 t44.To, .int .i64 t44.Joined, .int .i64 t44.Rank, .int .i64 t44.Mode, .slice y47.1 t44.Nodes.length y47.2] ([t44] : List Rule) (own_single (by rintro w Fs ⟨G0, _, rfl, h0, rfl⟩; exact ⟨154, y47.1, y47.2, G0, by simp, rfl, h0⟩)) (fun y48 => ?_)
           refine gn hm [21, 14, 4, 3, 2, 1] [] ?_
           refine ha1 9 ?_
           refine hr_ [1, 0] ?_
           refine hi (fun γ0 δ hm => ?_)
           refine JG_appendR (α := Rule) (by kernel_rfl) (t := 24) (e := 76) (a1 := y22.1) (a2 := y48.1) (c1 := y22.2) (c2 := y48.2) (l1 := s21.2) (l2 := ([t44] : List Rule)) (by kernel_rfl) (i := Tryz.t76) (by kernel_rfl) (z := (vRule (Rule.mk 0 0 0 0 0 0 ([] : List Node)) (none, 0))) (by kernel_rfl) (by kernel_rfl) (by kernel_rfl) (by kernel_rfl) (Rr := []) rfl hm51 _ (fun _ => rfl) (fun y49 => ?_)
           refine gn hm [22, 4, 3, 2, 1] [] ?_
           refine htq 10 (.p 2 0) [] ?_
           refine ha1 11 ?_
           refine hi (fun γ0 δ hm => ?_)
           refine gs [(23, .p 2 0), (22, .v (.slice y49.1 l50.length y49.2)), (4, vi s21.1), (3, .p 2 0), (2, .p 1 0), (1, .p 0 0)] [(26, (eBook x0 (a0_0, c0_0))), (26, [.slice none 0 0]), (26, (eBook (Book.mk l50) y49))] (fun δ2 => ?_)
           refine gd hm [4, 3, 2, 1] [] ?_
           exact hd y49 [4, 3, 2, 1] [0] 3
         · refine hi (fun γ0 δ hm => ?_)
           refine gb [SlRes 154 t44.Nodes y47.1 y47.2] [SlRes 76 s21.2 y22.1 y22.2] 76 1 [.int .i64 t44.Name, .int .i64 t44.From, .int .i64 t44.To, .int .i64 t44.Joined, .int .i64 t44.Rank, .int .i64 t44.Mode, .slice y47.1 t44.Nodes.length y47.2] ([t44] : List Rule) (own_single (by rintro w Fs ⟨G0, _, rfl, h0, rfl⟩; exact ⟨154, y47.1, y47.2, G0, by simp, rfl, h0⟩)) (fun y48 => ?_)
           refine gn hm [21, 13, 4, 3, 2, 1] [] ?_
           refine ha1 1 ?_
           refine hi (fun γ0 δ hm => ?_)
           refine gs [(14, .v (.slice y22.1 s21.2.length y22.2)), (21, .v (.slice y48.1 ([t44] : List Rule).length y48.2)), (13, .p 2 0), (4, vi s21.1), (3, .p 2 0), (2, .p 1 0), (1, .p 0 0)] [(26, (eBook x0 (a0_0, c0_0))), (26, [.slice none 0 0]), (26, (eBook (Book.mk s21.2) y22))] (fun δ2 => ?_)
           refine gd hm [14, 21, 4, 3, 2, 1] [] ?_
           refine ha1 9 ?_
           refine hr_ [1, 0] ?_
           refine hi (fun γ0 δ hm => ?_)
           refine JG_appendR (α := Rule) (by kernel_rfl) (t := 24) (e := 76) (a1 := y22.1) (a2 := y48.1) (c1 := y22.2) (c2 := y48.2) (l1 := s21.2) (l2 := ([t44] : List Rule)) (by kernel_rfl) (i := Tryz.t76) (by kernel_rfl) (z := (vRule (Rule.mk 0 0 0 0 0 0 ([] : List Node)) (none, 0))) (by kernel_rfl) (by kernel_rfl) (by kernel_rfl) (by kernel_rfl) (Rr := []) rfl hm51 _ (fun _ => rfl) (fun y49 => ?_)
           refine gn hm [22, 4, 3, 2, 1] [] ?_
           refine htq 10 (.p 2 0) [] ?_
           refine ha1 11 ?_
           refine hi (fun γ0 δ hm => ?_)
           refine gs [(23, .p 2 0), (22, .v (.slice y49.1 l50.length y49.2)), (4, vi s21.1), (3, .p 2 0), (2, .p 1 0), (1, .p 0 0)] [(26, (eBook x0 (a0_0, c0_0))), (26, [.slice none 0 0]), (26, (eBook (Book.mk l50) y49))] (fun δ2 => ?_)
           refine gd hm [4, 3, 2, 1] [] ?_
           exact hd y49 [4, 3, 2, 1] [0] 3
     refine bn (nt (qr (oN 3 [(4, vi (w64 (s21.1 + 1)))] [3, 2, 1] ?_)))
     exact oe (ct h52 (y53.1, y53.2) [4, 3, 2, 1] [0] 3)
   refine qx (nx (nx (bh ?_)))
   have h54 := leafB hd30 h36 h26
   exact mp (s21.2, (y22.1, y22.2)) h54 [3, 2] [0] 3
 have h33 := (congrFun hk28 _).symm.trans h33p
 refine nt (qs (qr (oB 2 [] [2] [(26, (eBook x0 (a0_0, c0_0))), (26, (eBook (Book.mk y32.1) y32.2)), (26, (eBook (Book.mk y32.1) y32.2))] ?_)))
 refine oe (nt (qe (rt [vBook (Book.mk y32.1) y32.2] (fun γ w hs => ?_))))
 rw [← sI h33]
 exact ⟨y32.2, rfl, hs.kept.toBelow, (hs.takeR (is := [0]) rfl).fresh⟩

theorem c_spec_l08Two {W : World} {x0 : Int} {r : Bool} (h : spec_l08Two x0 = some r)  :
    Gives0 Tryz.prog 215 #[.int .i64 x0] W (.bool r) := by
 unfold spec_l08Two at h
 refine en Tryz.func215 Tryz.ntmps215 ?_
 refine qs (qr (oN 1 [] [0] ?_))
 refine oe (nt (qs (qr (oN 1 [(3, vi x0)] [] ?_))))
 obtain ⟨t21, h22, h23⟩ := bS h
 refine k0 (fun γ w hs => c_spec_l01In h22) ?_
 refine oN 1 [(2, vb t21)] [] ?_
 refine oe (nt (qe ?_))
 obtain rfl := sI h23
 exact re [.bool t21]

theorem c_spec_l08At {W : World} {x0 : Int} {x1 : Int} {r : Bool} (h : spec_l08At x0 x1 = some r)  :
    Gives0 Tryz.prog 216 #[.int .i64 x0, .int .i64 x1] W (.bool r) := by
 unfold spec_l08At at h
 refine en Tryz.func216 Tryz.ntmps216 ?_
 refine qs (qr (oN 1 [] [0, 1] ?_))
 refine oe (nt (qs ?_))
 obtain ⟨p21, hE22, h23⟩ := bS h
 refine JC_cut (τ := Unit) (fun _ => [(4, vb p21)]) (fun _ => []) (fun _ => []) ?_ (fun _ => ?_)
 · refine qr (oN 3 [(7, vb (decide (x0 ≥ 0)))] [0, 1] ?_)
   refine oS 7 hE22 (fun h25 => ?_) (fun h26 => ?_)
   · refine oN 5 [(4, vb (decide (x0 < x1)))] [] ?_
     refine oe ?_
     obtain rfl := sI h25
     exact mt () [4] [] 0
   refine oN 5 [(4, vb false)] [] ?_
   refine oe ?_
   obtain rfl := sI h26
   exact mt () [4] [] 0
 refine nt (qe ?_)
 obtain rfl := sI h23
 exact re [.bool p21]

theorem c_spec_NodeOk {W : World} {x0 : Node} {x1 : Int} {r : Bool} (h : spec_NodeOk x0 x1 = some r)  :
    Gives0 Tryz.prog 205 #[vNode x0, .int .i64 x1] W (.bool r) := by
 unfold spec_NodeOk at h
 refine en Tryz.func205 Tryz.ntmps205 ?_
 refine qs (qr (oB 2 [(2, .p 0 0)] [1] [(154, (eNode x0))] ?_))
 refine oe (nt (qs (qr (oB 3 [(5, .p 1 0)] [2, 1] [(154, (eNode x0)), (133, (eFrac (Frac.mk 0 0)))] ?_))))
 refine oe (nt (qs (qb (qs (qr (oN 4 [(7, vb (x0.Kind == 1))] [5, 2, 1] ?_))))))
 refine oe (nt (cC h (fun h81 => ?_) (fun h82 => ?_)))
 · refine qs ?_
   obtain ⟨p83, hE84, h85⟩ := bS h81
   refine JC_cut (τ := Unit) (fun _ => [(4, vb p83)]) (fun _ => [(154, (eNode x0)), (133, (eFrac (Frac.mk 0 0)))]) (fun _ => []) ?_ (fun _ => ?_)
   · refine qr (oN 4 [(14, vb (x0.A == 0))] [2] ?_)
     refine oS 14 hE84 (fun h87 => ?_) (fun h88 => ?_)
     · refine oN 5 [(19, vb (x0.B == 0))] [2] ?_
       refine oS 19 h87 (fun h90 => ?_) (fun h91 => ?_)
       · refine oN 5 [(24, vb (x0.C == 0))] [2] ?_
         refine oS 24 h90 (fun h93 => ?_) (fun h94 => ?_)
         · refine oN 2 [(26, .v (vFrac x0.Value))] [24] ?_
           obtain ⟨t95, h96, h97⟩ := bS h93
           refine k0 (fun γ w hs => c_spec_FracOk h96) ?_
           refine oN 2 [(4, vb t95)] [] ?_
           refine oe ?_
           obtain rfl := sI h97
           exact mt () [4] [] 2
         refine oN 5 [(4, vb false)] [] ?_
         refine oe ?_
         obtain rfl := sI h94
         exact mt () [4] [] 2
       refine oN 10 [(4, vb false)] [] ?_
       refine oe ?_
       obtain rfl := sI h91
       exact mt () [4] [] 2
     refine oN 15 [(4, vb false)] [] ?_
     refine oe ?_
     obtain rfl := sI h88
     exact mt () [4] [] 2
   refine nt (qe (br (nr ?_)))
   obtain rfl := sI h85
   exact re [.bool p83]
 refine qs (qr (oN 5 [(29, vb (!((x0.Value.Num == 0) && ((x0.Value.Den == 0) && true))))] [2, 1] ?_))
 refine oe (nt (cC h82 (fun h140 => ?_) (fun h141 => ?_)))
 · refine qs (qr (oN 1 [(4, vb false)] [] ?_))
   refine oe (nt (qe (br (nr ?_))))
   obtain rfl := sI h140
   exact re [.bool false]
 refine qs (qr (oN 4 [(34, vb (x0.Kind == 2))] [2, 1] ?_))
 refine oe (nt (cC h141 (fun h180 => ?_) (fun h181 => ?_)))
 · refine qs ?_
   obtain ⟨p182, hE183, h184⟩ := bS h180
   refine JC_cut (τ := Unit) (fun _ => [(4, vb p182)]) (fun _ => [(154, (eNode x0)), (133, (eFrac (Frac.mk 0 0)))]) (fun _ => []) ?_ (fun _ => ?_)
   · refine qr (oN 2 [(39, vi x0.A)] [2] ?_)
     obtain ⟨t185, h186, h187⟩ := bS hE183
     refine k0 (fun γ w hs => c_spec_l01In h186) ?_
     refine oN 1 [(41, vb t185)] [2] ?_
     refine oS 41 h187 (fun h190 => ?_) (fun h191 => ?_)
     · refine oN 5 [(46, vb (x0.B == 0))] [2] ?_
       refine oS 46 h190 (fun h193 => ?_) (fun h194 => ?_)
       · refine oN 5 [(4, vb (x0.C == 0))] [] ?_
         refine oe ?_
         obtain rfl := sI h193
         exact mt () [4] [] 2
       refine oN 5 [(4, vb false)] [] ?_
       refine oe ?_
       obtain rfl := sI h194
       exact mt () [4] [] 2
     refine oN 10 [(4, vb false)] [] ?_
     refine oe ?_
     obtain rfl := sI h191
     exact mt () [4] [] 2
   refine nt (qe (br (nr ?_)))
   obtain rfl := sI h184
   exact re [.bool p182]
 refine qs (qr (oN 2 [(53, vi x0.Kind)] [2, 1] ?_))
 obtain ⟨t195, h196, h197⟩ := bS h181
 refine k0 (fun γ w hs => c_spec_l08Two h196) ?_
 refine oN 1 [(51, vb t195)] [2, 1] ?_
 refine oe (nt (cC h197 (fun h217 => ?_) (fun h218 => ?_)))
 · refine qs ?_
   obtain ⟨p219, hE220, h221⟩ := bS h217
   refine JC_cut (τ := Unit) (fun _ => [(4, vb p219)]) (fun _ => [(154, (eNode x0)), (133, (eFrac (Frac.mk 0 0)))]) (fun _ => []) ?_ (fun _ => ?_)
   · refine qr (oN 3 [(57, vi x1), (56, vi x0.A)] [2, 1] ?_)
     obtain ⟨t222, h223, h224⟩ := bS hE220
     refine k0 (fun γ w hs => c_spec_l08At h223) ?_
     refine oN 1 [(59, vb t222)] [2, 1] ?_
     refine oS 59 h224 (fun h227 => ?_) (fun h228 => ?_)
     · refine oN 3 [(62, vi x1), (61, vi x0.B)] [59, 2] ?_
       obtain ⟨t229, h230, h231⟩ := bS h227
       refine k0 (fun γ w hs => c_spec_l08At h230) ?_
       refine oN 2 [(65, vb t229)] [2] ?_
       refine oS 65 h231 (fun h234 => ?_) (fun h235 => ?_)
       · refine oN 5 [(4, vb (x0.C == 0))] [] ?_
         refine oe ?_
         obtain rfl := sI h234
         exact mt () [4] [] 2
       refine oN 5 [(4, vb false)] [] ?_
       refine oe ?_
       obtain rfl := sI h235
       exact mt () [4] [] 2
     refine oN 11 [(4, vb false)] [] ?_
     refine oe ?_
     obtain rfl := sI h228
     exact mt () [4] [] 2
   refine nt (qe (br (nr ?_)))
   obtain rfl := sI h221
   exact re [.bool p219]
 refine qk (bn (nt (qs ?_)))
 obtain ⟨p236, hE237, h238⟩ := bS h218
 refine JC_cut (τ := Unit) (fun _ => [(4, vb p236)]) (fun _ => [(154, (eNode x0)), (133, (eFrac (Frac.mk 0 0)))]) (fun _ => []) ?_ (fun _ => ?_)
 · refine qr (oN 4 [(73, vb (x0.Kind == 9))] [2, 1] ?_)
   refine oS 73 hE237 (fun h240 => ?_) (fun h241 => ?_)
   · refine oN 3 [(76, vi x1), (75, vi x0.A)] [73, 2, 1] ?_
     obtain ⟨t242, h243, h244⟩ := bS h240
     refine k0 (fun γ w hs => c_spec_l08At h243) ?_
     refine oN 2 [(79, vb t242)] [2, 1] ?_
     refine oS 79 h244 (fun h247 => ?_) (fun h248 => ?_)
     · refine oN 3 [(82, vi x1), (81, vi x0.B)] [79, 2, 1] ?_
       obtain ⟨t249, h250, h251⟩ := bS h247
       refine k0 (fun γ w hs => c_spec_l08At h250) ?_
       refine oN 2 [(85, vb t249)] [2, 1] ?_
       refine oS 85 h251 (fun h254 => ?_) (fun h255 => ?_)
       · refine oN 3 [(88, vi x1), (87, vi x0.C)] [85] ?_
         obtain ⟨t256, h257, h258⟩ := bS h254
         refine k0 (fun γ w hs => c_spec_l08At h257) ?_
         refine oN 2 [(4, vb t256)] [] ?_
         refine oe ?_
         obtain rfl := sI h258
         exact mt () [4] [] 2
       refine oN 6 [(4, vb false)] [] ?_
       refine oe ?_
       obtain rfl := sI h255
       exact mt () [4] [] 2
     refine oN 12 [(4, vb false)] [] ?_
     refine oe ?_
     obtain rfl := sI h248
     exact mt () [4] [] 2
   refine oN 18 [(4, vb false)] [] ?_
   refine oe ?_
   obtain rfl := sI h241
   exact mt () [4] [] 2
 refine nt (qe ?_)
 obtain rfl := sI h238
 exact re [.bool p236]

theorem c_spec_FormulaOk {W : World} {x0 : List Node} {a0_0 : Option Addr} {c0_0 : Nat} {r : Bool} (h : spec_FormulaOk x0 = some r) (hv0_0 : SlView W x0 a0_0 c0_0) :
    Gives0 Tryz.prog 193 #[.slice a0_0 x0.length c0_0] W (.bool r) := by
 unfold spec_FormulaOk at h
 refine en Tryz.func193 Tryz.ntmps193 ?_
 refine qs (qr (oN 1 [] [0] ?_))
 refine oe (nt (qs (qs (qr (oN 1 [(3, vi 0)] [0] ?_)))))
 refine oe (nt ?_)
 obtain ⟨r24, hL25, h26⟩ := bS h
 obtain ⟨k27, hk28, h26⟩ := brkS h26
 refine JC_cutP (τ := (Unit) × (Unit)) (fun y => k27 y.1 = some r) (fun y32 => [(0, .v (.slice a0_0 x0.length c0_0))]) (fun y32 => []) (fun y32 => []) ?_ (fun y32 h33p => ?_)
 · refine qb (lp Unit hL25 (fun s21 y22 => [(3, vi s21), (0, .v (.slice a0_0 x0.length c0_0))]) (fun s21 y22 => []) (fun s21 y22 => []) () [3, 0] [] 0 (fun s21 y22 t23 h29 hd30 => ?_))
   refine qs (qs (qr (oN 4 [(7, vb (decide (s21 < (x0.length : Int))))] [3, 0] ?_)))
   refine oe (nt (cC h29 (fun h39 => ?_) (fun h40 => ?_)))
   · refine qk (nt (qs (qb (qs (qr (oN 2 [(11, vi s21), (10, .v (.slice a0_0 x0.length c0_0))] [3, 0] ?_))))))
     obtain ⟨x41, hx42, h43⟩ := bS h39
     refine oi 6 (fun γ w hs => (hv0_0.kept hs.kept)) hx42 ?_
     refine ol 154 0 (vNode x41) (fun γ w hs => (hv0_0.kept hs.kept).flatq hx42) ?_
     refine oN 1 [(14, vi s21)] [13, 3, 0] ?_
     obtain ⟨t44, h45, h46⟩ := bS h43
     refine k0 (fun γ w hs => c_spec_NodeOk h45) ?_
     refine oN 1 [(16, vb (!t44))] [3, 0] ?_
     refine oe (nt (cC h46 (fun h49 => ?_) (fun h50 => ?_)))
     · refine qs (qr (oN 1 [(2, vb false)] [] ?_))
       refine oe (nt (qe (br (nr (nr ?_)))))
       have h51 := leafR hd30 h49 h26
       refine br (nr (nr ?_))
       obtain rfl := sI h51
       exact re [.bool false]
     refine qk (bn (nt (qr (oN 3 [(3, vi (w64 (s21 + 1)))] [0] ?_))))
     exact oe (ct h50 () [3, 0] [] 0)
   refine qx (nx (nx (bh ?_)))
   have h52 := leafB hd30 h40 h26
   exact mp ((), ()) h52 [0] [] 0
 have h33 := (congrFun hk28 _).symm.trans h33p
 refine nt (qs (qr (oN 2 [(18, vi (x0.length : Int))] [] ?_)))
 obtain ⟨t34, h35, h36⟩ := bS h33
 refine k0 (fun γ w hs => c_spec_l01In h35) ?_
 refine oN 1 [(2, vb t34)] [] ?_
 refine oe (nt (qe ?_))
 obtain rfl := sI h36
 exact re [.bool t34]

theorem c_spec_RuleOk {W : World} {x0 : Rule} {a0_0 : Option Addr} {c0_0 : Nat} {r : Bool} (h : spec_RuleOk x0 = some r) (hv0_0 : SlView W x0.Nodes a0_0 c0_0) :
    Gives0 Tryz.prog 156 #[vRule x0 (a0_0, c0_0)] W (.bool r) := by
 unfold spec_RuleOk at h
 refine en Tryz.func156 Tryz.ntmps156 ?_
 refine qs (qr (oB 2 [(1, .p 0 0)] [] [(76, (eRule x0 (a0_0, c0_0)))] ?_))
 refine oe (nt (qs ?_))
 obtain ⟨p21, hE22, h23⟩ := bS h
 refine JC_cut (τ := Unit) (fun _ => [(2, vb p21)]) (fun _ => [(76, (eRule x0 (a0_0, c0_0)))]) (fun _ => []) ?_ (fun _ => ?_)
 · refine qr (oN 2 [(4, vi x0.Name)] [1] ?_)
   obtain ⟨t24, h25, h26⟩ := bS hE22
   refine k0 (fun γ w hs => c_spec_l01In h25) ?_
   refine oN 1 [(6, vb t24)] [1] ?_
   refine oS 6 h26 (fun h29 => ?_) (fun h30 => ?_)
   · refine oN 5 [(11, vb (decide (x0.From ≥ 0)))] [1] ?_
     refine oS 11 h29 (fun h32 => ?_) (fun h33 => ?_)
     · refine oN 7 [(18, vb (decide (x0.From < x0.To)))] [1] ?_
       refine oS 18 h32 (fun h35 => ?_) (fun h36 => ?_)
       · refine oN 5 [(23, vb (decide (x0.To ≤ 3600)))] [1] ?_
         refine oS 23 h35 (fun h38 => ?_) (fun h39 => ?_)
         · refine oN 2 [(25, vi x0.Joined)] [23, 1] ?_
           obtain ⟨t40, h41, h42⟩ := bS h38
           refine k0 (fun γ w hs => c_spec_l01In h41) ?_
           refine oN 2 [(28, vb t40)] [1] ?_
           refine oS 28 h42 (fun h45 => ?_) (fun h46 => ?_)
           · refine oN 2 [(30, vi x0.Rank)] [28, 1] ?_
             obtain ⟨t47, h48, h49⟩ := bS h45
             refine k0 (fun γ w hs => c_spec_l01In h48) ?_
             refine oN 2 [(33, vb t47)] [1] ?_
             refine oS 33 h49 (fun h52 => ?_) (fun h53 => ?_)
             · refine oN 2 [(35, vi x0.Mode)] [33, 1] ?_
               obtain ⟨t54, h55, h56⟩ := bS h52
               refine k0 (fun γ w hs => c_spec_l01In h55) ?_
               refine oN 2 [(38, vb t54)] [1] ?_
               refine oS 38 h56 (fun h59 => ?_) (fun h60 => ?_)
               · refine oN 2 [(40, .v (.slice a0_0 x0.Nodes.length c0_0))] [38] ?_
                 obtain ⟨t61, h62, h63⟩ := bS h59
                 refine k0 (fun γ w hs => c_spec_FormulaOk h62 (hv0_0.kept hs.kept)) ?_
                 refine oN 2 [(2, vb t61)] [] ?_
                 refine oe ?_
                 obtain rfl := sI h63
                 exact mt () [2] [] 1
               refine oN 5 [(2, vb false)] [] ?_
               refine oe ?_
               obtain rfl := sI h60
               exact mt () [2] [] 1
             refine oN 10 [(2, vb false)] [] ?_
             refine oe ?_
             obtain rfl := sI h53
             exact mt () [2] [] 1
           refine oN 15 [(2, vb false)] [] ?_
           refine oe ?_
           obtain rfl := sI h46
           exact mt () [2] [] 1
         refine oN 20 [(2, vb false)] [] ?_
         refine oe ?_
         obtain rfl := sI h39
         exact mt () [2] [] 1
       refine oN 25 [(2, vb false)] [] ?_
       refine oe ?_
       obtain rfl := sI h36
       exact mt () [2] [] 1
     refine oN 32 [(2, vb false)] [] ?_
     refine oe ?_
     obtain rfl := sI h33
     exact mt () [2] [] 1
   refine oN 37 [(2, vb false)] [] ?_
   refine oe ?_
   obtain rfl := sI h30
   exact mt () [2] [] 1
 refine nt (qe ?_)
 obtain rfl := sI h23
 exact re [.bool p21]

theorem c_spec_l04End {W : World} {x0 : Int} {r : Bool} (h : spec_l04End x0 = some r)  :
    Gives0 Tryz.prog 73 #[.int .i64 x0] W (.bool r) := by
 unfold spec_l04End at h
 refine en Tryz.func73 Tryz.ntmps73 ?_
 refine qs (qr (oN 1 [] [0] ?_))
 refine oe (nt (qs (qr (oN 1 [(3, vi x0)] [] ?_))))
 obtain ⟨t21, h22, h23⟩ := bS h
 refine k0 (fun γ w hs => c_spec_l01In h22) ?_
 refine oN 1 [(2, vb t21)] [] ?_
 refine oe (nt (qe ?_))
 obtain rfl := sI h23
 exact re [.bool t21]

theorem c_spec_MonthsIn {W : World} {x0 : Int} {x1 : Int} {x2 : Int} {x3 : Int} {r : Int} (h : spec_MonthsIn x0 x1 x2 x3 = some r)  :
    Gives0 Tryz.prog 157 #[.int .i64 x0, .int .i64 x1, .int .i64 x2, .int .i64 x3] W (.int .i64 r) := by
 unfold spec_MonthsIn at h
 refine en Tryz.func157 Tryz.ntmps157 ?_
 refine qs (qr (oN 1 [] [0, 1, 2, 3] ?_))
 refine oe (nt (qs (qs ?_)))
 obtain ⟨p21, hE22, h23⟩ := bS h
 refine JC_cut (τ := Unit) (fun _ => [(0, vi x0), (1, vi x1), (2, vi x2), (3, vi x3), (26, vb p21)]) (fun _ => []) (fun _ => []) ?_ (fun _ => ?_)
 · refine qr (oN 1 [(9, vi x0)] [0, 1, 2, 3] ?_)
   obtain ⟨t24, h25, h26⟩ := bS hE22
   refine k0 (fun γ w hs => c_spec_l04End h25) ?_
   refine oN 2 [(12, vb (!t24))] [0, 1, 2, 3] ?_
   refine oS 12 h26 (fun h29 => ?_) (fun h30 => ?_)
   · refine oN 14 [(26, vb true)] [0, 1, 2, 3] ?_
     refine oe ?_
     obtain rfl := sI h29
     exact mt () [0, 1, 2, 3, 26] [] 0
   refine oN 1 [(13, vi x1)] [12, 0, 1, 2, 3] ?_
   obtain ⟨t31, h32, h33⟩ := bS h30
   refine k0 (fun γ w hs => c_spec_l04End h32) ?_
   refine oN 3 [(17, vb (!t31))] [0, 1, 2, 3] ?_
   refine oS 17 h33 (fun h36 => ?_) (fun h37 => ?_)
   · refine oN 9 [(26, vb true)] [0, 1, 2, 3] ?_
     refine oe ?_
     obtain rfl := sI h36
     exact mt () [0, 1, 2, 3, 26] [] 0
   refine oN 1 [(18, vi x2)] [17, 0, 1, 2, 3] ?_
   obtain ⟨t38, h39, h40⟩ := bS h37
   refine k0 (fun γ w hs => c_spec_l04End h39) ?_
   refine oN 3 [(22, vb (!t38))] [0, 1, 2, 3] ?_
   refine oS 22 h40 (fun h43 => ?_) (fun h44 => ?_)
   · refine oN 4 [(26, vb true)] [0, 1, 2, 3] ?_
     refine oe ?_
     obtain rfl := sI h43
     exact mt () [0, 1, 2, 3, 26] [] 0
   refine oN 1 [(23, vi x3)] [22, 0, 1, 2, 3] ?_
   obtain ⟨t45, h46, h47⟩ := bS h44
   refine k0 (fun γ w hs => c_spec_l04End h46) ?_
   refine oN 2 [(26, vb (!t45))] [0, 1, 2, 3] ?_
   refine oe ?_
   obtain rfl := sI h47
   exact mt () [0, 1, 2, 3, 26] [] 0
 refine nt (cC h23 (fun h50 => ?_) (fun h51 => ?_))
 · refine qs (qr (oN 1 [(8, vi 0)] [] ?_))
   refine oe (nt (qe (nr ?_)))
   obtain rfl := sI h50
   exact re [.int .i64 0]
 refine qk (nt (qs (qr (oN 9 [(8, vi (imax 0 (w64 ((imin x1 x3) - (imax x0 x2)))))] [] ?_))))
 refine oe (nt (qe ?_))
 obtain rfl := sI h51
 exact re [.int .i64 (imax 0 (w64 ((imin x1 x3) - (imax x0 x2))))]

theorem c_spec_BookOk {W : World} {x0 : Book} {a0_0 : Option Addr} {c0_0 : Nat} {r : Bool} (h : spec_BookOk x0 = some r) (hv0_0 : SlView W x0.Rules a0_0 c0_0) :
    Gives0 Tryz.prog 106 #[vBook x0 (a0_0, c0_0)] W (.bool r) := by
 unfold spec_BookOk at h
 refine en Tryz.func106 Tryz.ntmps106 ?_
 refine qs (qr (oB 2 [(1, .p 0 0)] [] [(26, (eBook x0 (a0_0, c0_0)))] ?_))
 refine oe (nt (qs (qs (qr (oN 1 [(3, vi 0)] [1] ?_)))))
 refine oe (nt ?_)
 obtain ⟨r24, hL25, h26⟩ := bS h
 obtain ⟨k27, hk28, h26⟩ := brkS h26
 refine JC_cutP (τ := (Unit) × (Unit)) (fun y => k27 y.1 = some r) (fun y32 => [(1, .p 0 0)]) (fun y32 => [(26, (eBook x0 (a0_0, c0_0)))]) (fun y32 => []) ?_ (fun y32 h33p => ?_)
 · refine qb (lp Unit hL25 (fun s21 y22 => [(3, vi s21), (1, .p 0 0)]) (fun s21 y22 => [(26, (eBook x0 (a0_0, c0_0)))]) (fun s21 y22 => []) () [3, 1] [] 1 (fun s21 y22 t23 h29 hd30 => ?_))
   refine qs (qs (qr (oN 5 [(11, vb (decide (s21 < (x0.Rules.length : Int))))] [3, 1] ?_)))
   refine oe (nt (cC h29 (fun h35 => ?_) (fun h36 => ?_)))
   · refine qk (nt (qs (qb (qs (qr (oN 3 [(16, vi s21), (15, .v (.slice a0_0 x0.Rules.length c0_0))] [3, 1] ?_))))))
     obtain ⟨x37, hx38, h39⟩ := bS h35
     refine oi 7 (fun γ w hs => (hv0_0.kept hs.kept)) hx38 ?_
     obtain ⟨_, ⟨a40, c41, rfl, hv42⟩, hc43⟩ := SlView.at hv0_0 (idx_some hx38).2.2
     refine ol 76 0 (vRule x37 (a40, c41)) (fun γ w hs => ⟨(hv0_0.kept hs.kept).ne (idx_some hx38).2.2, hc43.kept hs.kept⟩) ?_
     refine oB 2 [(4, .p 1 0)] [3, 1] [(26, (eBook x0 (a0_0, c0_0))), (76, (eRule x37 (a40, c41)))] ?_
     refine oe (nt (qs (qs (qr (oN 1 [(19, .v (vRule x37 (a40, c41)))] [4, 3, 1] ?_)))))
     obtain ⟨t44, h45, h46⟩ := bS h39
     refine k0 (fun γ w hs => c_spec_RuleOk h45 (hv42.kept hs.kept)) ?_
     refine oN 1 [(21, vb (!t44))] [4, 3, 1] ?_
     refine oe (nt (cC h46 (fun h49 => ?_) (fun h50 => ?_)))
     · refine qs (qr (oN 1 [(2, vb false)] [] ?_))
       refine oe (nt (qe (nr (br (nr (nr ?_))))))
       have h51 := leafR hd30 h49 h26
       refine br (nr (nr ?_))
       obtain rfl := sI h51
       exact re [.bool false]
     refine qk (nt (qs (qr (oN 1 [(5, vi 0)] [4, 3, 1] ?_))))
     refine oe (nt ?_)
     obtain ⟨r55, hL56, h57⟩ := bS h50
     obtain ⟨k58, hk59, h57⟩ := brkS h57
     refine JC_cutP (τ := (Int × Int × Int × Int × Int × Int × Int) × (Unit)) (fun y => k58 y.1 = some t23) (fun y63 => [(3, vi y63.1.1), (1, .p 0 0)]) (fun y63 => [(26, (eBook x0 (a0_0, c0_0))), (76, (eRule (Rule.mk y63.1.2.1 y63.1.2.2.1 y63.1.2.2.2.1 y63.1.2.2.2.2.1 y63.1.2.2.2.2.2.1 y63.1.2.2.2.2.2.2 x37.Nodes) (a40, c41)))]) (fun y63 => []) ?_ (fun y63 h64p => ?_)
     · refine qb (lp Unit hL56 (fun s52 y53 => [(5, vi s52), (4, .p 1 0), (3, vi s21), (1, .p 0 0)]) (fun s52 y53 => [(26, (eBook x0 (a0_0, c0_0))), (76, (eRule x37 (a40, c41)))]) (fun s52 y53 => []) () [5, 4, 3, 1] [] 2 (fun s52 y53 t54 h60 hd61 => ?_))
       refine qs (qs (qr (oN 3 [(24, vb (decide (s52 < s21)))] [5, 4, 3, 1] ?_)))
       refine oe (nt (cC h60 (fun h66 => ?_) (fun h67 => ?_)))
       · refine qk (nt (qs (qb (qs (qr (oN 3 [(29, vi s52), (28, .v (.slice a0_0 x0.Rules.length c0_0))] [5, 4, 3, 1] ?_))))))
         obtain ⟨x68, hx69, h70⟩ := bS h66
         refine oi 7 (fun γ w hs => (hv0_0.kept hs.kept)) hx69 ?_
         obtain ⟨_, ⟨a71, c72, rfl, hv73⟩, hc74⟩ := SlView.at hv0_0 (idx_some hx69).2.2
         refine ol 76 0 (vRule x68 (a71, c72)) (fun γ w hs => ⟨(hv0_0.kept hs.kept).ne (idx_some hx69).2.2, hc74.kept hs.kept⟩) ?_
         refine oB 2 [(6, .p 2 0)] [5, 4, 3, 1] [(26, (eBook x0 (a0_0, c0_0))), (76, (eRule x37 (a40, c41))), (76, (eRule x68 (a71, c72)))] ?_
         refine oe (nt (qs ?_))
         obtain ⟨p75, hE76, h77⟩ := bS h70
         refine JC_cut (τ := Unit) (fun _ => [(1, .p 0 0), (3, vi s21), (4, .p 1 0), (5, vi s52), (55, vb p75)]) (fun _ => [(26, (eBook x0 (a0_0, c0_0))), (76, (eRule x37 (a40, c41))), (76, (eRule x68 (a71, c72)))]) (fun _ => []) ?_ (fun _ => ?_)
         · refine qr (oN 6 [(37, vb (x68.Name == x37.Name))] [6, 5, 4, 3, 1] ?_)
           refine oS 37 hE76 (fun h79 => ?_) (fun h80 => ?_)
           · refine oN 7 [(44, vb (x68.Rank == x37.Rank))] [6, 5, 4, 3, 1] ?_
             refine oS 44 h79 (fun h82 => ?_) (fun h83 => ?_)
             · refine oN 8 [(52, vi x37.To), (50, vi x37.From), (48, vi x68.To), (46, vi x68.From)] [44, 5, 4, 3, 1] ?_
               obtain ⟨t84, h85, h86⟩ := bS h82
               refine k0 (fun γ w hs => c_spec_MonthsIn h85) ?_
               refine oN 2 [(55, vb (decide (t84 > 0)))] [5, 4, 3, 1] ?_
               refine oe ?_
               obtain rfl := sI h86
               exact mt () [1, 3, 4, 5, 55] [] 3
             refine oN 11 [(55, vb false)] [5, 4, 3, 1] ?_
             refine oe ?_
             obtain rfl := sI h83
             exact mt () [1, 3, 4, 5, 55] [] 3
           refine oN 18 [(55, vb false)] [5, 4, 3, 1] ?_
           refine oe ?_
           obtain rfl := sI h80
           exact mt () [1, 3, 4, 5, 55] [] 3
         refine nt (cC h77 (fun h89 => ?_) (fun h90 => ?_))
         · refine qs (qr (oN 1 [(2, vb false)] [] ?_))
           refine oe (nt (qe (br (nr (nr ?_)))))
           have h91 := leafR hd61 h89 h57
           refine br (nr (br (nr (nr ?_))))
           have h92 := leafR hd30 h91 h26
           refine br (nr (nr ?_))
           obtain rfl := sI h92
           exact re [.bool false]
         refine qk (bn (nt (qr (oN 3 [(5, vi (w64 (s52 + 1)))] [1, 3, 4] ?_))))
         exact oe (ct h90 () [5, 4, 3, 1] [] 2)
       refine qx (nx (nx (bh ?_)))
       have h93 := leafB hd61 h67 h57
       exact mp ((s21, x37.Name, x37.From, x37.To, x37.Joined, x37.Rank, x37.Mode), ()) h93 [3, 1] [] 2
     have h64 := (congrFun hk59 _).symm.trans h64p
     refine bn (nt (qr (oN 3 [(3, vi (w64 (y63.1.1 + 1)))] [1] ?_)))
     exact oe (ct h64 () [3, 1] [] 1)
   refine qx (nx (nx (bh ?_)))
   have h94 := leafB hd30 h36 h26
   exact mp ((), ()) h94 [1] [] 1
 have h33 := (congrFun hk28 _).symm.trans h33p
 refine nt (qs (qr (oN 5 [(2, vb (decide ((x0.Rules.length : Int) ≤ 20)))] [] ?_)))
 refine oe (nt (qe ?_))
 obtain rfl := sI h33
 exact re [.bool (decide ((x0.Rules.length : Int) ≤ 20))]

theorem c_spec_AddRule {W : World} {x0 : Book} {a0_0 : Option Addr} {c0_0 : Nat} {x1 : Rule} {a1_0 : Option Addr} {c1_0 : Nat} {r : Book × Bool} (h : spec_AddRule x0 x1 = some r) (hv0_0 : SlView W x0.Rules a0_0 c0_0) (hv1_0 : SlView W x1.Nodes a1_0 c1_0) :
    Gives Tryz.prog 115 #[vBook x0 (a0_0, c0_0), vRule x1 (a1_0, c1_0)] W (fun y : AC => .tuple #[vBook r.1 y, .bool r.2]) (fun y => [SlRes 76 r.1.Rules y.1 y.2]) := by
 unfold spec_AddRule at h
 refine en Tryz.func115 Tryz.ntmps115 ?_
 refine qs (qr (oB 4 [(4, .p 2 0), (3, .p 1 0), (2, .p 0 0)] [] [(26, (eBook x0 (a0_0, c0_0))), (76, (eRule x1 (a1_0, c1_0))), (26, [.slice none 0 0])] ?_))
 refine oe (nt (qs (qr (oN 1 [(7, .v (vBook x0 (a0_0, c0_0)))] [4, 3, 2] ?_))))
 obtain ⟨t21, h22, h23⟩ := bS h
 refine k1 (fun γ w hs => c_spec_l10Copy h22 (hv0_0.kept hs.kept)) (fun y24 => ?_)
 refine oB 2 [(6, .p 3 0)] [4, 3, 2] [(26, (eBook x0 (a0_0, c0_0))), (76, (eRule x1 (a1_0, c1_0))), (26, [.slice none 0 0]), (26, (eBook t21 y24))] ?_
 refine oe (nt (qs ?_))
 obtain ⟨t25, h26, h27⟩ := bS h23
 obtain ⟨l31, hm32, h33⟩ := bS h27
 refine JC_cut (τ := AC) (fun y34 => [(6, .p 3 0), (4, .p 2 0), (2, .p 0 0)]) (fun y34 => [(26, (eBook x0 (a0_0, c0_0))), (76, (eRule x1 (a1_0, c1_0))), (26, [.slice none 0 0]), (26, (eBook (Book.mk l31) y34))]) (fun y34 => [SlRes 76 l31 y34.1 y34.2]) ?_ (fun y34 => ?_)
 · refine jw [6, 4, 3, 2] [0] ?_
   refine JC_heldN (ks := [0, 1, 2]) (Rk := []) 8 (by kernel_rfl) (by kernel_rfl) ?_
   refine htq 0 (.p 3 0) [] ?_
   refine htq 2 (.v (vRule x1 (a1_0, c1_0))) [] ?_
   refine hk [11, 9, 6, 4, 2] ?_
   refine ha2 1 3 ?_ ?_
   · refine hi (fun γ0 δ hm => ?_)
     refine gs [(10, .v (.slice y24.1 t21.Rules.length y24.2)), (11, .v (vRule x1 (a1_0, c1_0))), (9, .p 3 0), (6, .p 3 0), (4, .p 2 0), (2, .p 0 0)] [(26, (eBook x0 (a0_0, c0_0))), (76, (eRule x1 (a1_0, c1_0))), (26, [.slice none 0 0]), (26, (eBook t21 y24))] (fun δ2 => ?_)
     refine gd hm [10, 11, 6, 4, 2] [] ?_
     refine ha1 3 ?_
     refine hi (fun γ0 δ hm => ?_)
     refine g1 (fun w hs => c_spec_l10Rule h26 (hv1_0.kept hs.kept)) (fun y28 => ?_)
     refine gn hm [12, 10, 6, 4, 2] [] ?_
     refine ha1 4 ?_
     refine hi (fun γ0 δ hm => ?_)
     refine gb [SlRes 154 t25.Nodes y28.1 y28.2] [SlRes 76 t21.Rules y24.1 y24.2] 76 1 [.int .i64 t25.Name, .int .i64 t25.From, .int .i64 t25.To, .int .i64 t25.Joined, .int .i64 t25.Rank, .int .i64 t25.Mode, .slice y28.1 t25.Nodes.length y28.2] ([t25] : List Rule) (own_single (by rintro w Fs ⟨G0, _, rfl, h0, rfl⟩; exact ⟨154, y28.1, y28.2, G0, by simp, rfl, h0⟩)) (fun y29 => ?_)
     refine gn hm [13, 10, 6, 4, 2] [] ?_
     refine ha1 5 ?_
     refine hr_ [1, 0] ?_
     refine hi (fun γ0 δ hm => ?_)
     refine JG_appendR (α := Rule) (by kernel_rfl) (t := 24) (e := 76) (a1 := y24.1) (a2 := y29.1) (c1 := y24.2) (c2 := y29.2) (l1 := t21.Rules) (l2 := ([t25] : List Rule)) (by kernel_rfl) (i := Tryz.t76) (by kernel_rfl) (z := (vRule (Rule.mk 0 0 0 0 0 0 ([] : List Node)) (none, 0))) (by kernel_rfl) (by kernel_rfl) (by kernel_rfl) (by kernel_rfl) (Rr := []) rfl hm32 _ (fun _ => rfl) (fun y30 => ?_)
     refine gn hm [14, 6, 4, 2] [] ?_
     refine htq 6 (.p 3 0) [] ?_
     refine ha1 7 ?_
     refine hi (fun γ0 δ hm => ?_)
     refine gs [(15, .p 3 0), (14, .v (.slice y30.1 l31.length y30.2)), (6, .p 3 0), (4, .p 2 0), (2, .p 0 0)] [(26, (eBook x0 (a0_0, c0_0))), (76, (eRule x1 (a1_0, c1_0))), (26, [.slice none 0 0]), (26, (eBook (Book.mk l31) y30))] (fun δ2 => ?_)
     refine gd hm [6, 4, 2] [] ?_
     exact hd y30 [6, 4, 2] [0] 4
   · refine hi (fun γ0 δ hm => ?_)
     refine g1 (fun w hs => c_spec_l10Rule h26 (hv1_0.kept hs.kept)) (fun y28 => ?_)
     refine gn hm [12, 9, 6, 4, 2] [] ?_
     refine ha2 1 4 ?_ ?_
     · refine hi (fun γ0 δ hm => ?_)
       refine gs [(10, .v (.slice y24.1 t21.Rules.length y24.2)), (12, .v (vRule t25 y28)), (9, .p 3 0), (6, .p 3 0), (4, .p 2 0), (2, .p 0 0)] [(26, (eBook x0 (a0_0, c0_0))), (76, (eRule x1 (a1_0, c1_0))), (26, [.slice none 0 0]), (26, (eBook t21 y24))] (fun δ2 => ?_)
       refine gd hm [10, 12, 6, 4, 2] [] ?_
       refine ha1 4 ?_
       refine hi (fun γ0 δ hm => ?_)
       refine gb [SlRes 154 t25.Nodes y28.1 y28.2] [SlRes 76 t21.Rules y24.1 y24.2] 76 1 [.int .i64 t25.Name, .int .i64 t25.From, .int .i64 t25.To, .int .i64 t25.Joined, .int .i64 t25.Rank, .int .i64 t25.Mode, .slice y28.1 t25.Nodes.length y28.2] ([t25] : List Rule) (own_single (by rintro w Fs ⟨G0, _, rfl, h0, rfl⟩; exact ⟨154, y28.1, y28.2, G0, by simp, rfl, h0⟩)) (fun y29 => ?_)
       refine gn hm [13, 10, 6, 4, 2] [] ?_
       refine ha1 5 ?_
       refine hr_ [1, 0] ?_
       refine hi (fun γ0 δ hm => ?_)
       refine JG_appendR (α := Rule) (by kernel_rfl) (t := 24) (e := 76) (a1 := y24.1) (a2 := y29.1) (c1 := y24.2) (c2 := y29.2) (l1 := t21.Rules) (l2 := ([t25] : List Rule)) (by kernel_rfl) (i := Tryz.t76) (by kernel_rfl) (z := (vRule (Rule.mk 0 0 0 0 0 0 ([] : List Node)) (none, 0))) (by kernel_rfl) (by kernel_rfl) (by kernel_rfl) (by kernel_rfl) (Rr := []) rfl hm32 _ (fun _ => rfl) (fun y30 => ?_)
       refine gn hm [14, 6, 4, 2] [] ?_
       refine htq 6 (.p 3 0) [] ?_
       refine ha1 7 ?_
       refine hi (fun γ0 δ hm => ?_)
       refine gs [(15, .p 3 0), (14, .v (.slice y30.1 l31.length y30.2)), (6, .p 3 0), (4, .p 2 0), (2, .p 0 0)] [(26, (eBook x0 (a0_0, c0_0))), (76, (eRule x1 (a1_0, c1_0))), (26, [.slice none 0 0]), (26, (eBook (Book.mk l31) y30))] (fun δ2 => ?_)
       refine gd hm [6, 4, 2] [] ?_
       exact hd y30 [6, 4, 2] [0] 4
     · refine hi (fun γ0 δ hm => ?_)
       refine gb [SlRes 154 t25.Nodes y28.1 y28.2] [SlRes 76 t21.Rules y24.1 y24.2] 76 1 [.int .i64 t25.Name, .int .i64 t25.From, .int .i64 t25.To, .int .i64 t25.Joined, .int .i64 t25.Rank, .int .i64 t25.Mode, .slice y28.1 t25.Nodes.length y28.2] ([t25] : List Rule) (own_single (by rintro w Fs ⟨G0, _, rfl, h0, rfl⟩; exact ⟨154, y28.1, y28.2, G0, by simp, rfl, h0⟩)) (fun y29 => ?_)
       refine gn hm [13, 9, 6, 4, 2] [] ?_
       refine ha1 1 ?_
       refine hi (fun γ0 δ hm => ?_)
       refine gs [(10, .v (.slice y24.1 t21.Rules.length y24.2)), (13, .v (.slice y29.1 ([t25] : List Rule).length y29.2)), (9, .p 3 0), (6, .p 3 0), (4, .p 2 0), (2, .p 0 0)] [(26, (eBook x0 (a0_0, c0_0))), (76, (eRule x1 (a1_0, c1_0))), (26, [.slice none 0 0]), (26, (eBook t21 y24))] (fun δ2 => ?_)
       refine gd hm [10, 13, 6, 4, 2] [] ?_
       refine ha1 5 ?_
       refine hr_ [1, 0] ?_
       refine hi (fun γ0 δ hm => ?_)
       refine JG_appendR (α := Rule) (by kernel_rfl) (t := 24) (e := 76) (a1 := y24.1) (a2 := y29.1) (c1 := y24.2) (c2 := y29.2) (l1 := t21.Rules) (l2 := ([t25] : List Rule)) (by kernel_rfl) (i := Tryz.t76) (by kernel_rfl) (z := (vRule (Rule.mk 0 0 0 0 0 0 ([] : List Node)) (none, 0))) (by kernel_rfl) (by kernel_rfl) (by kernel_rfl) (by kernel_rfl) (Rr := []) rfl hm32 _ (fun _ => rfl) (fun y30 => ?_)
       refine gn hm [14, 6, 4, 2] [] ?_
       refine htq 6 (.p 3 0) [] ?_
       refine ha1 7 ?_
       refine hi (fun γ0 δ hm => ?_)
       refine gs [(15, .p 3 0), (14, .v (.slice y30.1 l31.length y30.2)), (6, .p 3 0), (4, .p 2 0), (2, .p 0 0)] [(26, (eBook x0 (a0_0, c0_0))), (76, (eRule x1 (a1_0, c1_0))), (26, [.slice none 0 0]), (26, (eBook (Book.mk l31) y30))] (fun δ2 => ?_)
       refine gd hm [6, 4, 2] [] ?_
       exact hd y30 [6, 4, 2] [0] 4
 refine nt (qs (qs ?_))
 obtain ⟨p35, hE36, h37⟩ := bS h33
 refine JC_cut (τ := Unit) (fun _ => [(2, .p 0 0), (4, .p 2 0), (6, .p 3 0), (23, vb p35)]) (fun _ => [(26, (eBook x0 (a0_0, c0_0))), (76, (eRule x1 (a1_0, c1_0))), (26, [.slice none 0 0]), (26, (eBook (Book.mk l31) y34))]) (fun _ => [SlRes 76 l31 y34.1 y34.2]) ?_ (fun _ => ?_)
 · refine qr (oN 1 [(16, .v (vBook x0 (a0_0, c0_0)))] [6, 4, 2] ?_)
   obtain ⟨t38, h39, h40⟩ := bS hE36
   refine k0 (fun γ w hs => c_spec_BookOk h39 (hv0_0.kept hs.kept)) ?_
   refine oN 2 [(19, vb (!t38))] [6, 4, 2] ?_
   refine oS 19 h40 (fun h43 => ?_) (fun h44 => ?_)
   · refine oN 4 [(23, vb true)] [6, 4, 2] ?_
     refine oe ?_
     obtain rfl := sI h43
     exact mt () [2, 4, 6, 23] [0] 4
   refine oN 1 [(20, .v (vBook (Book.mk l31) y34))] [19, 6, 4, 2] ?_
   obtain ⟨t45, h46, h47⟩ := bS h44
   refine k0 (fun γ w hs => c_spec_BookOk h46 (hs.view 0 rfl)) ?_
   refine oN 2 [(23, vb (!t45))] [6, 4, 2] ?_
   refine oe ?_
   obtain rfl := sI h47
   exact mt () [2, 4, 6, 23] [0] 4
 refine nt (cC h37 (fun h54 => ?_) (fun h55 => ?_))
 · refine qs (qr (oN 1 [(24, .v (vBook x0 (a0_0, c0_0)))] [4] ?_))
   obtain ⟨t56, h57, h58⟩ := bS h54
   refine k1 (fun γ w hs => c_spec_l10Copy h57 (hv0_0.kept hs.kept)) (fun y59 => ?_)
   refine oB 2 [(5, vb false)] [4] [(26, (eBook x0 (a0_0, c0_0))), (76, (eRule x1 (a1_0, c1_0))), (26, (eBook t56 y59)), (26, (eBook (Book.mk l31) y34))] ?_
   refine oe (nt (qe (nr (rt [vBook t56 y59, .bool false] (fun γ w hs => ?_)))))
   rw [← sI h58]
   exact ⟨y59, rfl, hs.kept.toBelow, (hs.takeR (is := [0]) rfl).fresh⟩
 refine qk (nt (qs (qr (oB 3 [(5, vb true)] [4] [(26, (eBook x0 (a0_0, c0_0))), (76, (eRule x1 (a1_0, c1_0))), (26, (eBook (Book.mk l31) y34)), (26, (eBook (Book.mk l31) y34))] ?_))))
 refine oe (nt (qe (rt [vBook (Book.mk l31) y34, .bool true] (fun γ w hs => ?_))))
 rw [← sI h55]
 exact ⟨y34, rfl, hs.kept.toBelow, (hs.takeR (is := [0]) rfl).fresh⟩

theorem c_spec_l22Case {W : World} {xb0 : List U8} {xi0 xh0 : Int} {p0 ca0 : Option Addr} {cc0 : Nat} {r : Case × Int × Int} (h : spec_l22Case xb0 xi0 xh0 = some r) (hv0_0 : SlView W xb0 ca0 cc0) :
    GivesC Tryz.prog 138 69 #[(SV.q p0 0).den []] W (CurD.mk xb0 xi0 xh0) p0 ca0 cc0 (CurD.mk xb0 r.2.1 r.2.2) (fun y : AC × AC × AC × AC × AC => vCase r.1 y) (fun y => [SlRes 76 r.1.Book.Rules y.1.1 y.1.2, SlRes 47 r.1.Store.Facts y.2.1.1 y.2.1.2, SlRes 52 r.1.Series.Points y.2.2.1.1 y.2.2.1.2, SlRes 156 r.1.Member.Spells y.2.2.2.1.1 y.2.2.2.1.2, SlRes 158 r.1.Member.Events y.2.2.2.2.1 y.2.2.2.2.2]) := by
 unfold spec_l22Case at h
 refine enterC [.q p0 0] (args := [(SV.q p0 0).den []]) hv0_0 (by kernel_rfl) (by kernel_rfl) Tryz.func69 rfl Tryz.ntmps69 (by kernel_rfl) (fun g hg hs0 => ?_)
 refine qs (qr (oB 1 [(2, .p 0 0)] [0] [(38, [.slice none 0 0, .slice none 0 0, .slice none 0 0, .int .i64 0, .int .i64 0, .slice none 0 0, .slice none 0 0])] ?_))
 refine oe (nt (qs (qr (oN 1 [(5, .q p0 0)] [2, 0] ?_))))
 obtain ⟨t21, h22, h23⟩ := bS h
 refine JO_callC rfl (by kernel_rfl) (f := 112) (args := fun γ => #[(SV.q p0 0).den []]) (fun γ => by kernel_rfl) (x0 := CurD.mk xb0 xi0 xh0) (x1 := CurD.mk xb0 t21.2.1 t21.2.2) (Rr := []) rfl hs0 (fun γ w hs => (by have vv := c_spec_l05Store (p0 := p0) (W := w) h22 (hs0.kept hs.kept); exact vv)) (fun (y24 : AC) => [(6, .v (vStore t21.1 y24)), (5, .q p0 0), (2, .p 0 0), (0, .q p0 0)]) (fun y24 => by kernel_rfl) (fun y24 => ?_)
 refine oN 1 [(7, .q p0 0)] [6, 2, 0] ?_
 refine or_ [1, 0] ?_
 obtain ⟨t25, h26, h27⟩ := bS h23
 refine JO_callC rfl (by kernel_rfl) (f := 113) (args := fun γ => #[(SV.q p0 0).den []]) (fun γ => by kernel_rfl) (x0 := CurD.mk xb0 t21.2.1 t21.2.2) (x1 := CurD.mk xb0 t25.2.1 t25.2.2) (Rr := [SlRes 47 t21.1.Facts y24.1 y24.2]) rfl hs0 (fun γ w hs => (by have vv := c_spec_l07Series (p0 := p0) (W := w) h26 (hs0.kept hs.kept); exact vv)) (fun (y28 : AC) => [(8, .v (vSeries t25.1 y28)), (7, .q p0 0), (6, .v (vStore t21.1 y24)), (2, .p 0 0), (0, .q p0 0)]) (fun y28 => by kernel_rfl) (fun y28 => ?_)
 refine oN 1 [(9, .q p0 0)] [8, 6, 2, 0] ?_
 refine or_ [1, 0, 0] ?_
 obtain ⟨t29, h30, h31⟩ := bS h27
 refine JO_callC rfl (by kernel_rfl) (f := 114) (args := fun γ => #[(SV.q p0 0).den []]) (fun γ => by kernel_rfl) (x0 := CurD.mk xb0 t25.2.1 t25.2.2) (x1 := CurD.mk xb0 t29.2.1 t29.2.2) (Rr := [SlRes 52 t25.1.Points y28.1 y28.2, SlRes 47 t21.1.Facts y24.1 y24.2]) rfl hs0 (fun γ w hs => (by have vv := c_spec_l22Member (p0 := p0) (W := w) h30 (hs0.kept hs.kept); exact vv)) (fun (y32 : AC × AC) => [(10, .v (vMember t29.1 y32)), (9, .q p0 0), (8, .v (vSeries t25.1 y28)), (6, .v (vStore t21.1 y24)), (2, .p 0 0), (0, .q p0 0)]) (fun y32 => by kernel_rfl) (fun y32 => ?_)
 refine oB 3 [(3, .p 1 0)] [2, 0] [(38, [.slice none 0 0, .slice none 0 0, .slice none 0 0, .int .i64 0, .int .i64 0, .slice none 0 0, .slice none 0 0]), (38, (eCase (Case.mk (Book.mk ([] : List Rule)) t21.1 t25.1 t29.1) ((none, 0), y24, y28, y32.1, y32.2)))] ?_
 refine oe (nt (qs ?_))
 obtain ⟨t33, h34, h35⟩ := bS h31
 obtain ⟨l39, hm40, h41⟩ := bS h35
 refine JC_cut (τ := AC) (fun y42 => [(3, .p 1 0), (2, .p 0 0), (0, .q p0 0)]) (fun y42 => [(38, [.slice none 0 0, .slice none 0 0, .slice none 0 0, .int .i64 0, .int .i64 0, .slice none 0 0, .slice none 0 0]), (38, (eCase (Case.mk (Book.mk ([] : List Rule)) (Store.mk l39) t25.1 t29.1) ((none, 0), y42, y28, y32.1, y32.2)))]) (fun y42 => [SlRes 47 l39 y42.1 y42.2, SlRes 156 t29.1.Spells y32.1.1 y32.1.2, SlRes 158 t29.1.Events y32.2.1 y32.2.2, CurRes 138 (CurD.mk xb0 t33.2.1 t33.2.2) p0 ca0 cc0, SlRes 52 t25.1.Points y28.1 y28.2, SlRes 47 t21.1.Facts y24.1 y24.2]) ?_ (fun y42 => ?_)
 · refine JC_weak [3, 2, 0] [0, 0, 0, 0, 0] 2 (sl' := [(3, .p 1 0), (2, .p 0 0), (0, .q p0 0)]) (bx' := [(38, [.slice none 0 0, .slice none 0 0, .slice none 0 0, .int .i64 0, .int .i64 0, .slice none 0 0, .slice none 0 0]), (38, (eCase (Case.mk (Book.mk ([] : List Rule)) t21.1 t25.1 t29.1) ((none, 0), y24, y28, y32.1, y32.2)))]) (R' := [SlRes 156 t29.1.Spells y32.1.1 y32.1.2, SlRes 158 t29.1.Events y32.2.1 y32.2.2, CurRes 138 (CurD.mk xb0 t29.2.1 t29.2.2) p0 ca0 cc0, SlRes 52 t25.1.Points y28.1 y28.2, SlRes 47 t21.1.Facts y24.1 y24.2]) (by kernel_rfl) (by kernel_rfl) (by kernel_rfl) (by kernel_rfl) ?_
   refine JC_heldN (ks := [0]) (Rk := [SlRes 156 t29.1.Spells y32.1.1 y32.1.2, SlRes 158 t29.1.Events y32.2.1 y32.2.2, SlRes 52 t25.1.Points y28.1 y28.2, SlRes 47 t21.1.Facts y24.1 y24.2]) 13 (by kernel_rfl) (by kernel_rfl) ?_
   refine htq 0 (.q p0 0) [0, 0, 1, 1] ?_
   refine htq 6 (.p 1 1) [0, 0, 1, 1] ?_
   refine htq 7 (.p 1 1) [0, 0, 1, 1] ?_
   refine hk [19, 12, 3, 2, 0] ?_
   refine ha2 1 8 ?_ ?_
   · refine JHi_res (R' := [CurRes 138 (CurD.mk xb0 t29.2.1 t29.2.2) p0 ca0 cc0, SlRes 156 t29.1.Spells y32.1.1 y32.1.2, SlRes 158 t29.1.Events y32.2.1 y32.2.2, SlRes 52 t25.1.Points y28.1 y28.2, SlRes 47 t21.1.Facts y24.1 y24.2]) [2, 0, 0, 0, 0] (by kernel_rfl) ?_
     refine hi (fun γ0 δ hm => ?_)
     refine JG_callC (by kernel_rfl) (f := 50) (args := #[(SV.q p0 0).den [], .int .i64 300]) (by kernel_rfl) (x0 := CurD.mk xb0 t29.2.1 t29.2.2) (x1 := CurD.mk xb0 t33.2.1 t33.2.2) (Rr := [SlRes 156 t29.1.Spells y32.1.1 y32.1.2, SlRes 158 t29.1.Events y32.2.1 y32.2.2, SlRes 52 t25.1.Points y28.1 y28.2, SlRes 47 t21.1.Facts y24.1 y24.2]) rfl hs0 (fun w hs => (by have vv := c_spec_l01Below (p0 := p0) (W := w) h34 (hs0.kept hs.kept); exact vv)) (fun (y36 : Unit) => [(13, vi t33.1), (19, .p 1 1), (12, .q p0 0), (3, .p 1 0), (2, .p 0 0), (0, .q p0 0)]) (fun y36 => by kernel_rfl) (fun y36 => ?_)
     refine gn hm [13, 19, 3, 2, 0] [1, 1, 1, 1] ?_
     refine htq 2 (vi (w64 (t33.1 * 100))) [1, 1, 1, 1] ?_
     refine hk [14, 19, 3, 2, 0] ?_
     refine htq 3 (vi (w64 (200000 + (w64 (t33.1 * 100))))) [1, 1, 1, 1] ?_
     refine hk [15, 19, 3, 2, 0] ?_
     refine htq 4 (.v (vFact (Fact.mk 1 0 80 0 (w64 (200000 + (w64 (t33.1 * 100))))))) [1, 1, 1, 1] ?_
     refine hk [16, 19, 3, 2, 0] ?_
     refine ha2 5 8 ?_ ?_
     · refine hi (fun γ0 δ hm => ?_)
       refine gb [] [CurRes 138 (CurD.mk xb0 t33.2.1 t33.2.2) p0 ca0 cc0, SlRes 156 t29.1.Spells y32.1.1 y32.1.2, SlRes 158 t29.1.Events y32.2.1 y32.2.2, SlRes 52 t25.1.Points y28.1 y28.2, SlRes 47 t21.1.Facts y24.1 y24.2] 47 1 [.int .i64 1, .int .i64 0, .int .i64 80, .int .i64 0, .int .i64 (w64 (200000 + (w64 (t33.1 * 100))))] ([Fact.mk 1 0 80 0 (w64 (200000 + (w64 (t33.1 * 100))))] : List Fact) (own_flat (by kernel_rfl)) (fun y37 => ?_)
       refine gn hm [17, 19, 3, 2, 0] [2, 2, 2, 2] ?_
       refine ha1 8 ?_
       refine hi (fun γ0 δ hm => ?_)
       refine gs [(20, .v (.slice y24.1 t21.1.Facts.length y24.2)), (17, .v (.slice y37.1 ([Fact.mk 1 0 80 0 (w64 (200000 + (w64 (t33.1 * 100))))] : List Fact).length y37.2)), (19, .p 1 1), (3, .p 1 0), (2, .p 0 0), (0, .q p0 0)] [(38, [.slice none 0 0, .slice none 0 0, .slice none 0 0, .int .i64 0, .int .i64 0, .slice none 0 0, .slice none 0 0]), (38, (eCase (Case.mk (Book.mk ([] : List Rule)) t21.1 t25.1 t29.1) ((none, 0), y24, y28, y32.1, y32.2)))] (fun δ2 => ?_)
       refine gd hm [20, 17, 3, 2, 0] [2, 2, 2, 2] ?_
       refine ha1 9 ?_
       refine hi (fun γ0 δ hm => ?_)
       refine ga 27 y24.2 Tryz.t47 (vFact (Fact.mk 0 0 0 0 0)) (fun w hs => ⟨y24.2, (hs.view 5 rfl)⟩) hm40 (fun y38 => ?_)
       refine gn hm [21, 3, 2, 0] [2, 2, 2, 2] ?_
       refine htq 10 (.p 1 1) [2, 2, 2, 2] ?_
       refine htq 11 (.p 1 1) [2, 2, 2, 2] ?_
       refine hk [23, 21, 3, 2, 0] ?_
       refine ha1 12 ?_
       refine hi (fun γ0 δ hm => ?_)
       refine gs [(23, .p 1 1), (21, .v (.slice y38.1 l39.length y38.2)), (3, .p 1 0), (2, .p 0 0), (0, .q p0 0)] [(38, [.slice none 0 0, .slice none 0 0, .slice none 0 0, .int .i64 0, .int .i64 0, .slice none 0 0, .slice none 0 0]), (38, (eCase (Case.mk (Book.mk ([] : List Rule)) (Store.mk l39) t25.1 t29.1) ((none, 0), y38, y28, y32.1, y32.2)))] (fun δ2 => ?_)
       refine gd hm [3, 2, 0] [2, 2, 2, 2] ?_
       exact hd y38 [3, 2, 0] [0, 1, 1, 0, 0, 0] 2
     · refine hi (fun γ0 δ hm => ?_)
       refine gs [(20, .v (.slice y24.1 t21.1.Facts.length y24.2)), (16, .v (vFact (Fact.mk 1 0 80 0 (w64 (200000 + (w64 (t33.1 * 100))))))), (19, .p 1 1), (3, .p 1 0), (2, .p 0 0), (0, .q p0 0)] [(38, [.slice none 0 0, .slice none 0 0, .slice none 0 0, .int .i64 0, .int .i64 0, .slice none 0 0, .slice none 0 0]), (38, (eCase (Case.mk (Book.mk ([] : List Rule)) t21.1 t25.1 t29.1) ((none, 0), y24, y28, y32.1, y32.2)))] (fun δ2 => ?_)
       refine gd hm [20, 16, 3, 2, 0] [1, 1, 1, 1] ?_
       refine ha1 5 ?_
       refine hi (fun γ0 δ hm => ?_)
       refine gb [] [CurRes 138 (CurD.mk xb0 t33.2.1 t33.2.2) p0 ca0 cc0, SlRes 156 t29.1.Spells y32.1.1 y32.1.2, SlRes 158 t29.1.Events y32.2.1 y32.2.2, SlRes 52 t25.1.Points y28.1 y28.2, SlRes 47 t21.1.Facts y24.1 y24.2] 47 1 [.int .i64 1, .int .i64 0, .int .i64 80, .int .i64 0, .int .i64 (w64 (200000 + (w64 (t33.1 * 100))))] ([Fact.mk 1 0 80 0 (w64 (200000 + (w64 (t33.1 * 100))))] : List Fact) (own_flat (by kernel_rfl)) (fun y37 => ?_)
       refine gn hm [17, 20, 3, 2, 0] [2, 2, 2, 2] ?_
       refine ha1 9 ?_
       refine hi (fun γ0 δ hm => ?_)
       refine ga 27 y24.2 Tryz.t47 (vFact (Fact.mk 0 0 0 0 0)) (fun w hs => ⟨y24.2, (hs.view 5 rfl)⟩) hm40 (fun y38 => ?_)
       refine gn hm [21, 3, 2, 0] [2, 2, 2, 2] ?_
       refine htq 10 (.p 1 1) [2, 2, 2, 2] ?_
       refine htq 11 (.p 1 1) [2, 2, 2, 2] ?_
       refine hk [23, 21, 3, 2, 0] ?_
       refine ha1 12 ?_
       refine hi (fun γ0 δ hm => ?_)
       refine gs [(23, .p 1 1), (21, .v (.slice y38.1 l39.length y38.2)), (3, .p 1 0), (2, .p 0 0), (0, .q p0 0)] [(38, [.slice none 0 0, .slice none 0 0, .slice none 0 0, .int .i64 0, .int .i64 0, .slice none 0 0, .slice none 0 0]), (38, (eCase (Case.mk (Book.mk ([] : List Rule)) (Store.mk l39) t25.1 t29.1) ((none, 0), y38, y28, y32.1, y32.2)))] (fun δ2 => ?_)
       refine gd hm [3, 2, 0] [2, 2, 2, 2] ?_
       exact hd y38 [3, 2, 0] [0, 1, 1, 0, 0, 0] 2
   · refine hi (fun γ0 δ hm => ?_)
     refine gs [(20, .v (.slice y24.1 t21.1.Facts.length y24.2)), (19, .p 1 1), (12, .q p0 0), (3, .p 1 0), (2, .p 0 0), (0, .q p0 0)] [(38, [.slice none 0 0, .slice none 0 0, .slice none 0 0, .int .i64 0, .int .i64 0, .slice none 0 0, .slice none 0 0]), (38, (eCase (Case.mk (Book.mk ([] : List Rule)) t21.1 t25.1 t29.1) ((none, 0), y24, y28, y32.1, y32.2)))] (fun δ2 => ?_)
     refine gd hm [20, 12, 3, 2, 0] [0, 0, 1, 1] ?_
     refine ha1 1 ?_
     refine JHi_res (R' := [CurRes 138 (CurD.mk xb0 t29.2.1 t29.2.2) p0 ca0 cc0, SlRes 156 t29.1.Spells y32.1.1 y32.1.2, SlRes 158 t29.1.Events y32.2.1 y32.2.2, SlRes 52 t25.1.Points y28.1 y28.2, SlRes 47 t21.1.Facts y24.1 y24.2]) [2, 0, 0, 0, 0] (by kernel_rfl) ?_
     refine hi (fun γ0 δ hm => ?_)
     refine JG_callC (by kernel_rfl) (f := 50) (args := #[(SV.q p0 0).den [], .int .i64 300]) (by kernel_rfl) (x0 := CurD.mk xb0 t29.2.1 t29.2.2) (x1 := CurD.mk xb0 t33.2.1 t33.2.2) (Rr := [SlRes 156 t29.1.Spells y32.1.1 y32.1.2, SlRes 158 t29.1.Events y32.2.1 y32.2.2, SlRes 52 t25.1.Points y28.1 y28.2, SlRes 47 t21.1.Facts y24.1 y24.2]) rfl hs0 (fun w hs => (by have vv := c_spec_l01Below (p0 := p0) (W := w) h34 (hs0.kept hs.kept); exact vv)) (fun (y36 : Unit) => [(13, vi t33.1), (20, .v (.slice y24.1 t21.1.Facts.length y24.2)), (12, .q p0 0), (3, .p 1 0), (2, .p 0 0), (0, .q p0 0)]) (fun y36 => by kernel_rfl) (fun y36 => ?_)
     refine gn hm [13, 20, 3, 2, 0] [1, 1, 1, 1] ?_
     refine htq 2 (vi (w64 (t33.1 * 100))) [1, 1, 1, 1] ?_
     refine hk [14, 20, 3, 2, 0] ?_
     refine htq 3 (vi (w64 (200000 + (w64 (t33.1 * 100))))) [1, 1, 1, 1] ?_
     refine hk [15, 20, 3, 2, 0] ?_
     refine htq 4 (.v (vFact (Fact.mk 1 0 80 0 (w64 (200000 + (w64 (t33.1 * 100))))))) [1, 1, 1, 1] ?_
     refine hk [16, 20, 3, 2, 0] ?_
     refine ha1 5 ?_
     refine hi (fun γ0 δ hm => ?_)
     refine gb [] [CurRes 138 (CurD.mk xb0 t33.2.1 t33.2.2) p0 ca0 cc0, SlRes 156 t29.1.Spells y32.1.1 y32.1.2, SlRes 158 t29.1.Events y32.2.1 y32.2.2, SlRes 52 t25.1.Points y28.1 y28.2, SlRes 47 t21.1.Facts y24.1 y24.2] 47 1 [.int .i64 1, .int .i64 0, .int .i64 80, .int .i64 0, .int .i64 (w64 (200000 + (w64 (t33.1 * 100))))] ([Fact.mk 1 0 80 0 (w64 (200000 + (w64 (t33.1 * 100))))] : List Fact) (own_flat (by kernel_rfl)) (fun y37 => ?_)
     refine gn hm [17, 20, 3, 2, 0] [2, 2, 2, 2] ?_
     refine ha1 9 ?_
     refine hi (fun γ0 δ hm => ?_)
     refine ga 27 y24.2 Tryz.t47 (vFact (Fact.mk 0 0 0 0 0)) (fun w hs => ⟨y24.2, (hs.view 5 rfl)⟩) hm40 (fun y38 => ?_)
     refine gn hm [21, 3, 2, 0] [2, 2, 2, 2] ?_
     refine htq 10 (.p 1 1) [2, 2, 2, 2] ?_
     refine htq 11 (.p 1 1) [2, 2, 2, 2] ?_
     refine hk [23, 21, 3, 2, 0] ?_
     refine ha1 12 ?_
     refine hi (fun γ0 δ hm => ?_)
     refine gs [(23, .p 1 1), (21, .v (.slice y38.1 l39.length y38.2)), (3, .p 1 0), (2, .p 0 0), (0, .q p0 0)] [(38, [.slice none 0 0, .slice none 0 0, .slice none 0 0, .int .i64 0, .int .i64 0, .slice none 0 0, .slice none 0 0]), (38, (eCase (Case.mk (Book.mk ([] : List Rule)) (Store.mk l39) t25.1 t29.1) ((none, 0), y38, y28, y32.1, y32.2)))] (fun δ2 => ?_)
     refine gd hm [3, 2, 0] [2, 2, 2, 2] ?_
     exact hd y38 [3, 2, 0] [0, 1, 1, 0, 0, 0] 2
 refine nt (qs (qs (qr (oN 1 [(4, vi 0)] [3, 2, 0] ?_))))
 refine oe (nt (JC_addnil 76 (List.nil (α := Rule)) rfl ?_))
 obtain ⟨r46, hL47, h48⟩ := bS h41
 obtain ⟨k49, hk50, h48⟩ := brkS h48
 refine JC_cutP (τ := (Int × Int × Int × Int × (List Rule) × Int × Int) × (AC)) (fun y => k49 y.1 = some r) (fun y54 => [(3, .p 1 0), (2, .p 0 0), (0, .q p0 0)]) (fun y54 => [(38, [.slice none 0 0, .slice none 0 0, .slice none 0 0, .int .i64 y54.1.2.2.1, .int .i64 y54.1.2.2.2.1, .slice none 0 0, .slice none 0 0]), (38, (eCase (Case.mk (Book.mk y54.1.2.2.2.2.1) (Store.mk l39) t25.1 (Member.mk y54.1.2.2.2.2.2.1 y54.1.2.2.2.2.2.2 t29.1.Spells t29.1.Events)) (y54.2, y42, y28, y32.1, y32.2)))]) (fun y54 => [SlRes 76 y54.1.2.2.2.2.1 y54.2.1 y54.2.2, SlRes 47 l39 y42.1 y42.2, SlRes 52 t25.1.Points y28.1 y28.2, SlRes 156 t29.1.Spells y32.1.1 y32.1.2, SlRes 158 t29.1.Events y32.2.1 y32.2.2, CurRes 138 (CurD.mk xb0 y54.1.1 y54.1.2.1) p0 ca0 cc0]) ?_ (fun y54 h55p => ?_)
 · refine qb (lp AC hL47 (fun s43 y44 => [(4, vi s43.1), (3, .p 1 0), (2, .p 0 0), (0, .q p0 0)]) (fun s43 y44 => [(38, [.slice none 0 0, .slice none 0 0, .slice none 0 0, .int .i64 0, .int .i64 0, .slice none 0 0, .slice none 0 0]), (38, (eCase (Case.mk (Book.mk s43.2.2.2) (Store.mk l39) t25.1 t29.1) (y44, y42, y28, y32.1, y32.2)))]) (fun s43 y44 => [SlRes 76 s43.2.2.2 y44.1 y44.2, SlRes 47 l39 y42.1 y42.2, SlRes 52 t25.1.Points y28.1 y28.2, SlRes 156 t29.1.Spells y32.1.1 y32.1.2, SlRes 158 t29.1.Events y32.2.1 y32.2.2, CurRes 138 (CurD.mk xb0 s43.2.1 s43.2.2.1) p0 ca0 cc0]) (none, 0) [4, 3, 2, 0] [0, 0, 3, 0, 0, 0] 2 (fun s43 y44 t45 h51 hd52 => ?_))
   refine qs (qs (qr (oN 2 [(25, .q p0 0), (24, vi s43.1)] [4, 3, 2, 0] ?_)))
   refine JO_res (R' := [CurRes 138 (CurD.mk xb0 s43.2.1 s43.2.2.1) p0 ca0 cc0, SlRes 76 s43.2.2.2 y44.1 y44.2, SlRes 47 l39 y42.1 y42.2, SlRes 52 t25.1.Points y28.1 y28.2, SlRes 156 t29.1.Spells y32.1.1 y32.1.2, SlRes 158 t29.1.Events y32.2.1 y32.2.2]) [5, 0, 0, 0, 0, 0] (by kernel_rfl) ?_
   obtain ⟨t56, h57, h58⟩ := bS h51
   refine JO_callC rfl (by kernel_rfl) (f := 50) (args := fun γ => #[(SV.q p0 0).den [], .int .i64 3]) (fun γ => by kernel_rfl) (x0 := CurD.mk xb0 s43.2.1 s43.2.2.1) (x1 := CurD.mk xb0 t56.2.1 t56.2.2) (Rr := [SlRes 76 s43.2.2.2 y44.1 y44.2, SlRes 47 l39 y42.1 y42.2, SlRes 52 t25.1.Points y28.1 y28.2, SlRes 156 t29.1.Spells y32.1.1 y32.1.2, SlRes 158 t29.1.Events y32.2.1 y32.2.2]) rfl hs0 (fun γ w hs => (by have vv := c_spec_l01Below (p0 := p0) (W := w) h57 (hs0.kept hs.kept); exact vv)) (fun (y59 : Unit) => [(26, vi t56.1), (25, .q p0 0), (24, vi s43.1), (4, vi s43.1), (3, .p 1 0), (2, .p 0 0), (0, .q p0 0)]) (fun y59 => by kernel_rfl) (fun y59 => ?_)
   refine oN 2 [(28, vb (decide (s43.1 < (w64 (1 + t56.1)))))] [4, 3, 2, 0] ?_
   refine oe (nt (cC h58 (fun h61 => ?_) (fun h62 => ?_)))
   · refine qk (nt (qs (qb ?_)))
     obtain ⟨t63, h64, h65⟩ := bS h61
     obtain ⟨t67, h68, h69⟩ := bS h65
     refine JC_cut (τ := AC) (fun y71 => [(4, vi s43.1), (3, .p 1 0), (2, .p 0 0), (0, .q p0 0)]) (fun y71 => [(38, [.slice none 0 0, .slice none 0 0, .slice none 0 0, .int .i64 0, .int .i64 0, .slice none 0 0, .slice none 0 0]), (38, (eCase (Case.mk t67.1 (Store.mk l39) t25.1 t29.1) (y71, y42, y28, y32.1, y32.2)))]) (fun y71 => [SlRes 76 t67.1.Rules y71.1 y71.2, CurRes 138 (CurD.mk xb0 t63.2.1 t63.2.2) p0 ca0 cc0, SlRes 76 s43.2.2.2 y44.1 y44.2, SlRes 47 l39 y42.1 y42.2, SlRes 52 t25.1.Points y28.1 y28.2, SlRes 156 t29.1.Spells y32.1.1 y32.1.2, SlRes 158 t29.1.Events y32.2.1 y32.2.2]) ?_ (fun y71 => ?_)
     · refine JC_weak [4, 3, 2, 0] [0, 0, 0, 0, 0, 0] 2 (sl' := [(4, vi s43.1), (3, .p 1 0), (2, .p 0 0), (0, .q p0 0)]) (bx' := [(38, [.slice none 0 0, .slice none 0 0, .slice none 0 0, .int .i64 0, .int .i64 0, .slice none 0 0, .slice none 0 0]), (38, (eCase (Case.mk (Book.mk s43.2.2.2) (Store.mk l39) t25.1 t29.1) (y44, y42, y28, y32.1, y32.2)))]) (R' := [CurRes 138 (CurD.mk xb0 t56.2.1 t56.2.2) p0 ca0 cc0, SlRes 76 s43.2.2.2 y44.1 y44.2, SlRes 47 l39 y42.1 y42.2, SlRes 52 t25.1.Points y28.1 y28.2, SlRes 156 t29.1.Spells y32.1.1 y32.1.2, SlRes 158 t29.1.Events y32.2.1 y32.2.2]) (by kernel_rfl) (by kernel_rfl) (by kernel_rfl) (by kernel_rfl) ?_
       refine JC_heldN (ks := [0]) (Rk := [SlRes 76 s43.2.2.2 y44.1 y44.2, SlRes 47 l39 y42.1 y42.2, SlRes 52 t25.1.Points y28.1 y28.2, SlRes 156 t29.1.Spells y32.1.1 y32.1.2, SlRes 158 t29.1.Events y32.2.1 y32.2.2]) 10 (by kernel_rfl) (by kernel_rfl) ?_
       refine htq 0 (.p 1 0) [1, 1, 1, 1, 1] ?_
       refine htq 2 (.q p0 0) [1, 1, 1, 1, 1] ?_
       refine ha2 1 3 ?_ ?_
       · refine hi (fun γ0 δ hm => ?_)
         refine gs [(33, .v (vBook (Book.mk s43.2.2.2) y44)), (34, .q p0 0), (32, .p 1 0), (4, vi s43.1), (3, .p 1 0), (2, .p 0 0), (0, .q p0 0)] [(38, [.slice none 0 0, .slice none 0 0, .slice none 0 0, .int .i64 0, .int .i64 0, .slice none 0 0, .slice none 0 0]), (38, (eCase (Case.mk (Book.mk s43.2.2.2) (Store.mk l39) t25.1 t29.1) (y44, y42, y28, y32.1, y32.2)))] (fun δ2 => ?_)
         refine gd hm [33, 34, 4, 3, 2, 0] [1, 1, 1, 1, 1] ?_
         refine ha1 3 ?_
         refine hi (fun γ0 δ hm => ?_)
         refine JG_callC (by kernel_rfl) (f := 116) (args := #[(SV.q p0 0).den []]) (by kernel_rfl) (x0 := CurD.mk xb0 t56.2.1 t56.2.2) (x1 := CurD.mk xb0 t63.2.1 t63.2.2) (Rr := [SlRes 76 s43.2.2.2 y44.1 y44.2, SlRes 47 l39 y42.1 y42.2, SlRes 52 t25.1.Points y28.1 y28.2, SlRes 156 t29.1.Spells y32.1.1 y32.1.2, SlRes 158 t29.1.Events y32.2.1 y32.2.2]) rfl hs0 (fun w hs => (by have vv := c_spec_l22Rule (p0 := p0) (W := w) h64 (hs0.kept hs.kept); exact vv)) (fun (y66 : AC) => [(35, .v (vRule t63.1 y66)), (33, .v (vBook (Book.mk s43.2.2.2) y44)), (34, .q p0 0), (4, vi s43.1), (3, .p 1 0), (2, .p 0 0), (0, .q p0 0)]) (fun y66 => by kernel_rfl) (fun y66 => ?_)
         refine gn hm [35, 33, 4, 3, 2, 0] [2, 2, 2, 2, 2] ?_
         refine ha1 4 ?_
         refine hi (fun γ0 δ hm => ?_)
         refine g1 (fun w hs => c_spec_AddRule h68 (hs.view 2 rfl) (hs.view 0 rfl)) (fun y70 => ?_)
         refine gn hm [36, 4, 3, 2, 0] [3, 3, 3, 3, 3] ?_
         refine htq 5 (.v (.tuple #[vBook t67.1 y70, .bool t67.2])) [3, 3, 3, 3, 3] ?_
         refine hk [31, 4, 3, 2, 0] ?_
         refine htq 6 (.v (vBook t67.1 y70)) [3, 3, 3, 3, 3] ?_
         refine htq 7 (vb t67.2) [3, 3, 3, 3, 3] ?_
         refine hk [37, 4, 3, 2, 0] ?_
         refine htq 8 (.p 1 0) [3, 3, 3, 3, 3] ?_
         refine ha1 9 ?_
         refine hi (fun γ0 δ hm => ?_)
         refine gs [(39, .p 1 0), (37, .v (vBook t67.1 y70)), (4, vi s43.1), (3, .p 1 0), (2, .p 0 0), (0, .q p0 0)] [(38, [.slice none 0 0, .slice none 0 0, .slice none 0 0, .int .i64 0, .int .i64 0, .slice none 0 0, .slice none 0 0]), (38, (eCase (Case.mk t67.1 (Store.mk l39) t25.1 t29.1) (y70, y42, y28, y32.1, y32.2)))] (fun δ2 => ?_)
         refine gd hm [4, 3, 2, 0] [3, 3, 3, 3, 3] ?_
         exact hd y70 [4, 3, 2, 0] [0, 1, 1, 1, 1, 1, 1] 2
       · refine hi (fun γ0 δ hm => ?_)
         refine JG_callC (by kernel_rfl) (f := 116) (args := #[(SV.q p0 0).den []]) (by kernel_rfl) (x0 := CurD.mk xb0 t56.2.1 t56.2.2) (x1 := CurD.mk xb0 t63.2.1 t63.2.2) (Rr := [SlRes 76 s43.2.2.2 y44.1 y44.2, SlRes 47 l39 y42.1 y42.2, SlRes 52 t25.1.Points y28.1 y28.2, SlRes 156 t29.1.Spells y32.1.1 y32.1.2, SlRes 158 t29.1.Events y32.2.1 y32.2.2]) rfl hs0 (fun w hs => (by have vv := c_spec_l22Rule (p0 := p0) (W := w) h64 (hs0.kept hs.kept); exact vv)) (fun (y66 : AC) => [(35, .v (vRule t63.1 y66)), (34, .q p0 0), (32, .p 1 0), (4, vi s43.1), (3, .p 1 0), (2, .p 0 0), (0, .q p0 0)]) (fun y66 => by kernel_rfl) (fun y66 => ?_)
         refine gn hm [35, 32, 4, 3, 2, 0] [2, 2, 2, 2, 2] ?_
         refine ha1 1 ?_
         refine hi (fun γ0 δ hm => ?_)
         refine gs [(33, .v (vBook (Book.mk s43.2.2.2) y44)), (35, .v (vRule t63.1 y66)), (32, .p 1 0), (4, vi s43.1), (3, .p 1 0), (2, .p 0 0), (0, .q p0 0)] [(38, [.slice none 0 0, .slice none 0 0, .slice none 0 0, .int .i64 0, .int .i64 0, .slice none 0 0, .slice none 0 0]), (38, (eCase (Case.mk (Book.mk s43.2.2.2) (Store.mk l39) t25.1 t29.1) (y44, y42, y28, y32.1, y32.2)))] (fun δ2 => ?_)
         refine gd hm [33, 35, 4, 3, 2, 0] [2, 2, 2, 2, 2] ?_
         refine ha1 4 ?_
         refine hi (fun γ0 δ hm => ?_)
         refine g1 (fun w hs => c_spec_AddRule h68 (hs.view 2 rfl) (hs.view 0 rfl)) (fun y70 => ?_)
         refine gn hm [36, 4, 3, 2, 0] [3, 3, 3, 3, 3] ?_
         refine htq 5 (.v (.tuple #[vBook t67.1 y70, .bool t67.2])) [3, 3, 3, 3, 3] ?_
         refine hk [31, 4, 3, 2, 0] ?_
         refine htq 6 (.v (vBook t67.1 y70)) [3, 3, 3, 3, 3] ?_
         refine htq 7 (vb t67.2) [3, 3, 3, 3, 3] ?_
         refine hk [37, 4, 3, 2, 0] ?_
         refine htq 8 (.p 1 0) [3, 3, 3, 3, 3] ?_
         refine ha1 9 ?_
         refine hi (fun γ0 δ hm => ?_)
         refine gs [(39, .p 1 0), (37, .v (vBook t67.1 y70)), (4, vi s43.1), (3, .p 1 0), (2, .p 0 0), (0, .q p0 0)] [(38, [.slice none 0 0, .slice none 0 0, .slice none 0 0, .int .i64 0, .int .i64 0, .slice none 0 0, .slice none 0 0]), (38, (eCase (Case.mk t67.1 (Store.mk l39) t25.1 t29.1) (y70, y42, y28, y32.1, y32.2)))] (fun δ2 => ?_)
         refine gd hm [4, 3, 2, 0] [3, 3, 3, 3, 3] ?_
         exact hd y70 [4, 3, 2, 0] [0, 1, 1, 1, 1, 1, 1] 2
     refine bn (nt (qr (oN 3 [(4, vi (w64 (s43.1 + 1)))] [3, 2, 0] ?_)))
     exact oe (ct h69 (y71.1, y71.2) [4, 3, 2, 0] [0, 2, 2, 2, 2, 0] 2)
   refine qx (nx (nx (bh ?_)))
   have h72 := leafB hd52 h62 h48
   exact mp ((t56.2.1, t56.2.2, 0, 0, s43.2.2.2, t29.1.Birth, t29.1.Joined), (y44.1, y44.2)) h72 [3, 2, 0] [1, 1, 1, 1, 1, 0] 2
 have h55 := (congrFun hk50 _).symm.trans h55p
 refine nt (qs (qr (oB 2 [] [2, 0] [(38, (eCase (Case.mk (Book.mk y54.1.2.2.2.2.1) (Store.mk l39) t25.1 (Member.mk y54.1.2.2.2.2.2.1 y54.1.2.2.2.2.2.2 t29.1.Spells t29.1.Events)) (y54.2, y42, y28, y32.1, y32.2))), (38, (eCase (Case.mk (Book.mk y54.1.2.2.2.2.1) (Store.mk l39) t25.1 (Member.mk y54.1.2.2.2.2.2.1 y54.1.2.2.2.2.2.2 t29.1.Spells t29.1.Events)) (y54.2, y42, y28, y32.1, y32.2)))] ?_)))
 refine oe (nt (qe (rt [vCase (Case.mk (Book.mk y54.1.2.2.2.2.1) (Store.mk l39) t25.1 (Member.mk y54.1.2.2.2.2.2.1 y54.1.2.2.2.2.2.2 t29.1.Spells t29.1.Events)) (y54.2, y42, y28, y32.1, y32.2)] (fun γ w hs => ?_))))
 rw [← sI h55]
 exact hs.curPost hg (y54.2, y42, y28, y32.1, y32.2) (is := [5, 0, 0, 0, 0, 0]) rfl
end Go.Pen
