/-
  Each Go function does what its plain function says: written by a program of ours.
-/
import Derived.Test.YtgdhafgblfapiaaF
import Derived.Test.YtgdhafgblfapiaaProg
import Derived.Test.YtgdhafgblfapiaaPenK
import Derived.Test.YtgdhafgblfapiaaPenJ
import Derived.Test.YtgdhafgblfapiaaPenP
namespace Go.Pen
open Go.Proofs Go.RowKit
set_option linter.unusedVariables false
set_option linter.unusedSimpArgs false
set_option maxRecDepth 100000
set_option maxHeartbeats 4000000

theorem c_laws_big {W : World} {x0 : List U8} {a0_0 : Option Addr} {c0_0 : Nat} {r : Bool} (h : laws_big x0 = some r) (hv0_0 : SlView W x0 a0_0 c0_0) :
    Gives0 Try.prog 33 #[.slice a0_0 x0.length c0_0] W (.bool r) := by
 unfold laws_big at h
 refine en Try.func33 Try.ntmps33 ?_
 refine qs (qr (oN 1 [] [0] ?_))
 refine oe (nt (qs (qr (oN 4 [(2, vb (decide ((x0.length : Int) > 1048576)))] [] ?_))))
 refine oe (nt (qe ?_))
 obtain rfl := sI h
 exact re [.bool (decide ((x0.length : Int) > 1048576))]

theorem c_spec_l01New {W : World} {x0 : List U8} {a0_0 : Option Addr} {c0_0 : Nat} {r : Int × Int} (h : spec_l01New x0 = some r) (hv0_0 : SlView W x0 a0_0 c0_0) :
    Gives Try.prog 63 #[.slice a0_0 x0.length c0_0] W (fun y : AC => (SV.q y.1 0).den []) (fun y => [CurRes 86 (CurD.mk x0 r.1 r.2) y.1 a0_0 c0_0]) := by
 unfold spec_l01New at h
 refine en Try.func63 Try.ntmps63 ?_
 refine qs (qr (oN 1 [] [0] ?_))
 refine oe (nt (qs (qr (oN 4 [(3, vi (w64 (98011 + (x0.length : Int))))] [0] ?_))))
 refine oe (nt (qs (qs (qr (oN 1 [(4, vi 0)] [3, 0] ?_)))))
 refine oe (nt ?_)
 obtain ⟨r24, hL25, h26⟩ := bS h
 obtain ⟨k27, hk28, h26⟩ := brkS h26
 refine JC_cutP (τ := (Int) × (Unit)) (fun y => k27 y.1 = some r) (fun y32 => [(3, vi y32.1), (0, .v (.slice a0_0 x0.length c0_0))]) (fun y32 => []) (fun y32 => []) ?_ (fun y32 h33p => ?_)
 · refine qb (lp Unit hL25 (fun s21 y22 => [(4, vi s21.1), (3, vi s21.2), (0, .v (.slice a0_0 x0.length c0_0))]) (fun s21 y22 => []) (fun s21 y22 => []) () [4, 3, 0] [] 0 (fun s21 y22 t23 h29 hd30 => ?_))
   refine qs (qs ?_)
   obtain ⟨p35, hE36, h37⟩ := bS h29
   refine JC_cut (τ := Unit) (fun _ => [(0, .v (.slice a0_0 x0.length c0_0)), (3, vi s21.2), (4, vi s21.1), (15, vb p35)]) (fun _ => []) (fun _ => []) ?_ (fun _ => ?_)
   · refine qr (oN 5 [(12, vb (decide (s21.1 < (x0.length : Int))))] [4, 3, 0] ?_)
     refine oS 12 hE36 (fun h39 => ?_) (fun h40 => ?_)
     · refine oN 3 [(15, vb (decide (s21.1 < 4000)))] [4, 3, 0] ?_
       refine oe ?_
       obtain rfl := sI h39
       exact mt () [0, 3, 4, 15] [] 0
     refine oN 3 [(15, vb false)] [4, 3, 0] ?_
     refine oe ?_
     obtain rfl := sI h40
     exact mt () [0, 3, 4, 15] [] 0
   refine nt (cC h37 (fun h42 => ?_) (fun h43 => ?_))
   · refine qk (nt (qs (qb (qr (oN 4 [(21, vi s21.1), (20, .v (.slice a0_0 x0.length c0_0)), (19, vi (w64 (s21.2 * 131)))] [0, 4] ?_)))))
     obtain ⟨x44, hx45, h46⟩ := bS h42
     refine oi 1 (fun γ w hs => (hv0_0.kept hs.kept)) hx45 ?_
     refine ol 5 0 (.int .u8 x44.n) (fun γ w hs => (hv0_0.kept hs.kept).flatq hx45) ?_
     refine oN 5 [(3, vi (and64 (w64 ((w64 ((w64 (s21.2 * 131)) + (w64 x44.n))) + 7)) 1073741823))] [0, 4] ?_
     refine oe (bn (nt (qr (oN 3 [(4, vi (w64 (s21.1 + 1)))] [3, 0] ?_))))
     exact oe (ct h46 () [4, 3, 0] [] 0)
   refine qx (nx (nx (bh ?_)))
   have h47 := leafB hd30 h43 h26
   exact mp (s21.2, ()) h47 [3, 0] [] 0
 have h33 := (congrFun hk28 _).symm.trans h33p
 refine nt (qs (qr (oN 3 [(30, .v (.agg #[.slice a0_0 x0.length c0_0, .int .i64 0, .int .i64 y32.1]))] [] ?_)))
 refine JO_newcur rfl (by kernel_rfl) (e := 86) (x := (CurD.mk x0 0 y32.1)) (a0 := a0_0) (c := c0_0) (cs := curCells (CurD.mk x0 0 y32.1) a0_0 c0_0) (by kernel_rfl) rfl (fun y34 => [(31, .q y34.1 0), (30, .v (.agg #[.slice a0_0 x0.length c0_0, .int .i64 0, .int .i64 y32.1]))]) (fun y34 => by kernel_rfl) (fun y34 => ?_)
 refine oN 1 [(2, .q y34.1 0)] [] ?_
 refine oe (nt (qe (JE_q1 ?_)))
 refine rt [(SV.q y34.1 0).den []] (fun γ w hs => ?_)
 rw [← sI h33]
 exact ⟨y34, rfl, hs.kept.toBelow, (hs.takeR (is := [0]) rfl).fresh⟩

theorem c_spec_l01Byte {W : World} {xb0 : List U8} {xi0 xh0 : Int} {p0 ca0 : Option Addr} {cc0 : Nat} {r : Int × Int × Int} (h : spec_l01Byte xb0 xi0 xh0 = some r) (hv0_0 : SlView W xb0 ca0 cc0) :
    GivesC Try.prog 86 76 #[(SV.q p0 0).den []] W (CurD.mk xb0 xi0 xh0) p0 ca0 cc0 (CurD.mk xb0 r.2.1 r.2.2) (fun y : Unit => .int .i64 r.1) (fun y => []) := by
 unfold spec_l01Byte at h
 refine enterC [.q p0 0] (args := [(SV.q p0 0).den []]) hv0_0 (by kernel_rfl) (by kernel_rfl) Try.func76 rfl Try.ntmps76 (by kernel_rfl) (fun g hg hs0 => ?_)
 refine qs (qr (oN 1 [] [0] ?_))
 refine oe (nt (qs (qr (oN 2 [(5, .q p0 0), (4, .q p0 0)] [0] ?_))))
 refine JO_nilq rfl (by kernel_rfl) (d := p0) (k := 0) (by kernel_rfl) (sl' := [(6, .q p0 0), (5, .q p0 0), (4, .q p0 0), (0, .q p0 0)]) (by kernel_rfl) ?_
 refine oN 1 [(7, .q p0 (0 + 2))] [4, 0] ?_
 refine ol 3 2 (.int .i64 xh0) (fun γ w hs => hs.cur 0 rfl) ?_
 refine oN 2 [(10, vi (w64 ((w64 (xh0 * 6364136223846793005)) + 1442695040888963407)))] [4, 0] ?_
 refine JO_nilq rfl (by kernel_rfl) (d := p0) (k := 0) (by kernel_rfl) (sl' := [(11, .q p0 0), (10, vi (w64 ((w64 (xh0 * 6364136223846793005)) + 1442695040888963407))), (4, .q p0 0), (0, .q p0 0)]) (by kernel_rfl) ?_
 refine oN 1 [(12, .q p0 (0 + 2))] [10, 0] ?_
 refine JO_cstore (e := 86) (x := CurD.mk xb0 xi0 xh0) (x' := CurD.mk xb0 xi0 (w64 ((w64 (xh0 * 6364136223846793005)) + 1442695040888963407))) (p := p0) (a0 := ca0) (c := cc0) rfl (by kernel_rfl) (2) (vs := [.int .i64 (w64 ((w64 (xh0 * 6364136223846793005)) + 1442695040888963407))]) (by kernel_rfl) (by kernel_rfl) (by kernel_rfl) (Rr := []) rfl (sl' := [(12, .q p0 (0 + 2)), (10, vi (w64 ((w64 (xh0 * 6364136223846793005)) + 1442695040888963407))), (0, .q p0 0)]) (by kernel_rfl) ?_
 refine oe (nt (qs (JC_quiet (by kernel_rfl) (by kernel_rfl) ?_)))
 refine qN 1 [(13, .q p0 0)] [0] ?_
 refine JQ_nilq rfl (by kernel_rfl) (d := p0) (k := 0) (by kernel_rfl) (sl' := [(14, .q p0 0), (13, .q p0 0), (0, .q p0 0)]) (by kernel_rfl) ?_
 refine qN 1 [(15, .q p0 (0 + 2))] [0] ?_
 refine ql 3 2 (.int .i64 (w64 ((w64 (xh0 * 6364136223846793005)) + 1442695040888963407))) (fun γ w hs => hs.cur 0 rfl) ?_
 refine qN 2 [(18, .q p0 0), (17, vi (Int.fdiv (w64 ((w64 (xh0 * 6364136223846793005)) + 1442695040888963407)) 8589934592))] [0] ?_
 refine JQ_nilq rfl (by kernel_rfl) (d := p0) (k := 0) (by kernel_rfl) (sl' := [(19, .q p0 0), (18, .q p0 0), (17, vi (Int.fdiv (w64 ((w64 (xh0 * 6364136223846793005)) + 1442695040888963407)) 8589934592)), (0, .q p0 0)]) (by kernel_rfl) ?_
 refine qN 1 [(20, .q p0 (0 + 2))] [17, 0] ?_
 refine ql 3 2 (.int .i64 (w64 ((w64 (xh0 * 6364136223846793005)) + 1442695040888963407))) (fun γ w hs => hs.cur 0 rfl) ?_
 refine qN 4 [(3, vi (and64 (xor64 (Int.fdiv (w64 ((w64 (xh0 * 6364136223846793005)) + 1442695040888963407)) 8589934592) (Int.fdiv (w64 ((w64 (xh0 * 6364136223846793005)) + 1442695040888963407)) 35184372088832)) 255))] [0] ?_
 refine qz (nt (qs (qs (JC_quiet (by kernel_rfl) (by kernel_rfl) ?_))))
 refine qN 1 [(25, .q p0 0)] [3, 0] ?_
 refine JQ_nilq rfl (by kernel_rfl) (d := p0) (k := 0) (by kernel_rfl) (sl' := [(26, .q p0 0), (25, .q p0 0), (3, vi (and64 (xor64 (Int.fdiv (w64 ((w64 (xh0 * 6364136223846793005)) + 1442695040888963407)) 8589934592) (Int.fdiv (w64 ((w64 (xh0 * 6364136223846793005)) + 1442695040888963407)) 35184372088832)) 255)), (0, .q p0 0)]) (by kernel_rfl) ?_
 refine qN 1 [(27, .q p0 (0 + 1))] [3, 0] ?_
 refine ql 3 1 (.int .i64 xi0) (fun γ w hs => hs.cur 0 rfl) ?_
 refine qN 1 [(29, .q p0 0)] [28, 3, 0] ?_
 refine JQ_nilq rfl (by kernel_rfl) (d := p0) (k := 0) (by kernel_rfl) (sl' := [(30, .q p0 0), (29, .q p0 0), (28, vi xi0), (3, vi (and64 (xor64 (Int.fdiv (w64 ((w64 (xh0 * 6364136223846793005)) + 1442695040888963407)) 8589934592) (Int.fdiv (w64 ((w64 (xh0 * 6364136223846793005)) + 1442695040888963407)) 35184372088832)) 255)), (0, .q p0 0)]) (by kernel_rfl) ?_
 refine qN 1 [(31, .q p0 (0))] [28, 3, 0] ?_
 refine ql 47 0 (.slice ca0 xb0.length cc0) (fun γ w hs => hs.cur 0 rfl) ?_
 refine qN 2 [(34, vb (decide (xi0 < (xb0.length : Int))))] [3, 0] ?_
 refine qz (nt ?_)
 obtain ⟨k27, hk28, h30⟩ := jS h
 refine JC_cutP (τ := (Int × Int) × (Unit)) (fun y => k27 y.1 = some r) (fun y26 => [(3, vi y26.1.1), (0, .q p0 0)]) (fun y26 => []) (fun y26 => [CurRes 86 (CurD.mk xb0 y26.1.2 (w64 ((w64 (xh0 * 6364136223846793005)) + 1442695040888963407))) p0 ca0 cc0]) ?_ (fun y26 h29p => ?_)
 · refine cC h30 (fun h32 => ?_) (fun h33 => ?_)
   · refine qs (JC_quiet (by kernel_rfl) (by kernel_rfl) ?_)
     refine qN 2 [(36, .q p0 0), (35, vi (and64 (xor64 (Int.fdiv (w64 ((w64 (xh0 * 6364136223846793005)) + 1442695040888963407)) 8589934592) (Int.fdiv (w64 ((w64 (xh0 * 6364136223846793005)) + 1442695040888963407)) 35184372088832)) 255))] [0] ?_
     refine JQ_nilq rfl (by kernel_rfl) (d := p0) (k := 0) (by kernel_rfl) (sl' := [(37, .q p0 0), (36, .q p0 0), (35, vi (and64 (xor64 (Int.fdiv (w64 ((w64 (xh0 * 6364136223846793005)) + 1442695040888963407)) 8589934592) (Int.fdiv (w64 ((w64 (xh0 * 6364136223846793005)) + 1442695040888963407)) 35184372088832)) 255)), (0, .q p0 0)]) (by kernel_rfl) ?_
     refine qN 1 [(38, .q p0 (0))] [35, 0] ?_
     refine ql 47 0 (.slice ca0 xb0.length cc0) (fun γ w hs => hs.cur 0 rfl) ?_
     refine qN 1 [(40, .q p0 0)] [39, 35, 0] ?_
     refine JQ_nilq rfl (by kernel_rfl) (d := p0) (k := 0) (by kernel_rfl) (sl' := [(41, .q p0 0), (40, .q p0 0), (39, .v (.slice ca0 xb0.length cc0)), (35, vi (and64 (xor64 (Int.fdiv (w64 ((w64 (xh0 * 6364136223846793005)) + 1442695040888963407)) 8589934592) (Int.fdiv (w64 ((w64 (xh0 * 6364136223846793005)) + 1442695040888963407)) 35184372088832)) 255)), (0, .q p0 0)]) (by kernel_rfl) ?_
     refine qN 1 [(42, .q p0 (0 + 1))] [39, 35, 0] ?_
     refine ql 3 1 (.int .i64 xi0) (fun γ w hs => hs.cur 0 rfl) ?_
     obtain ⟨x34, hx35, h36⟩ := bS h32
     refine qi 1 (fun γ w hs => (hs0.kept hs.kept)) hx35 ?_
     refine ql 5 0 (.int .u8 x34.n) (fun γ w hs => (hs0.kept hs.kept).flatq hx35) ?_
     refine qN 4 [(3, vi (and64 (w64 ((and64 (xor64 (Int.fdiv (w64 ((w64 (xh0 * 6364136223846793005)) + 1442695040888963407)) 8589934592) (Int.fdiv (w64 ((w64 (xh0 * 6364136223846793005)) + 1442695040888963407)) 35184372088832)) 255) + (w64 x34.n))) 255))] [0] ?_
     refine qz (nt (qr (oN 2 [(50, .q p0 0), (49, .q p0 0)] [3, 0] ?_)))
     refine JO_nilq rfl (by kernel_rfl) (d := p0) (k := 0) (by kernel_rfl) (sl' := [(51, .q p0 0), (50, .q p0 0), (49, .q p0 0), (3, vi (and64 (w64 ((and64 (xor64 (Int.fdiv (w64 ((w64 (xh0 * 6364136223846793005)) + 1442695040888963407)) 8589934592) (Int.fdiv (w64 ((w64 (xh0 * 6364136223846793005)) + 1442695040888963407)) 35184372088832)) 255) + (w64 x34.n))) 255)), (0, .q p0 0)]) (by kernel_rfl) ?_
     refine oN 1 [(52, .q p0 (0 + 1))] [49, 3, 0] ?_
     refine ol 3 1 (.int .i64 xi0) (fun γ w hs => hs.cur 0 rfl) ?_
     refine oN 1 [(54, vi (w64 (xi0 + 1)))] [49, 3, 0] ?_
     refine JO_nilq rfl (by kernel_rfl) (d := p0) (k := 0) (by kernel_rfl) (sl' := [(55, .q p0 0), (54, vi (w64 (xi0 + 1))), (49, .q p0 0), (3, vi (and64 (w64 ((and64 (xor64 (Int.fdiv (w64 ((w64 (xh0 * 6364136223846793005)) + 1442695040888963407)) 8589934592) (Int.fdiv (w64 ((w64 (xh0 * 6364136223846793005)) + 1442695040888963407)) 35184372088832)) 255) + (w64 x34.n))) 255)), (0, .q p0 0)]) (by kernel_rfl) ?_
     refine oN 1 [(56, .q p0 (0 + 1))] [54, 3, 0] ?_
     refine JO_cstore (e := 86) (x := CurD.mk xb0 xi0 (w64 ((w64 (xh0 * 6364136223846793005)) + 1442695040888963407))) (x' := CurD.mk xb0 (w64 (xi0 + 1)) (w64 ((w64 (xh0 * 6364136223846793005)) + 1442695040888963407))) (p := p0) (a0 := ca0) (c := cc0) rfl (by kernel_rfl) (1) (vs := [.int .i64 (w64 (xi0 + 1))]) (by kernel_rfl) (by kernel_rfl) (by kernel_rfl) (Rr := []) rfl (sl' := [(56, .q p0 (0 + 1)), (54, vi (w64 (xi0 + 1))), (3, vi (and64 (w64 ((and64 (xor64 (Int.fdiv (w64 ((w64 (xh0 * 6364136223846793005)) + 1442695040888963407)) 8589934592) (Int.fdiv (w64 ((w64 (xh0 * 6364136223846793005)) + 1442695040888963407)) 35184372088832)) 255) + (w64 x34.n))) 255)), (0, .q p0 0)]) (by kernel_rfl) ?_
     exact oe (mp ((and64 (w64 ((and64 (xor64 (Int.fdiv (w64 ((w64 (xh0 * 6364136223846793005)) + 1442695040888963407)) 8589934592) (Int.fdiv (w64 ((w64 (xh0 * 6364136223846793005)) + 1442695040888963407)) 35184372088832)) 255) + (w64 x34.n))) 255, w64 (xi0 + 1)), ()) h36 [3, 0] [0] 0)
   exact qk (mp ((and64 (xor64 (Int.fdiv (w64 ((w64 (xh0 * 6364136223846793005)) + 1442695040888963407)) 8589934592) (Int.fdiv (w64 ((w64 (xh0 * 6364136223846793005)) + 1442695040888963407)) 35184372088832)) 255, xi0), ()) h33 [3, 0] [0] 0)
 have h29 := (congrFun hk28 _).symm.trans h29p
 refine nt (qs (qr (oN 2 [(2, vi y26.1.1)] [0] ?_)))
 refine oe (nt (qe (rt [.int .i64 y26.1.1] (fun γ w hs => ?_))))
 rw [← sI h29]
 exact hs.curPost hg () (is := [0]) rfl

theorem c_spec_l01Below {W : World} {xb0 : List U8} {xi0 xh0 : Int} {p0 ca0 : Option Addr} {cc0 : Nat} {x1 : Int} {r : Int × Int × Int} (h : spec_l01Below xb0 xi0 xh0 x1 = some r) (hv0_0 : SlView W xb0 ca0 cc0) :
    GivesC Try.prog 86 64 #[(SV.q p0 0).den [], .int .i64 x1] W (CurD.mk xb0 xi0 xh0) p0 ca0 cc0 (CurD.mk xb0 r.2.1 r.2.2) (fun y : Unit => .int .i64 r.1) (fun y => []) := by
 unfold spec_l01Below at h
 refine enterC [.q p0 0, vi x1] (args := [(SV.q p0 0).den [], .int .i64 x1]) hv0_0 (by kernel_rfl) (by kernel_rfl) Try.func64 rfl Try.ntmps64 (by kernel_rfl) (fun g hg hs0 => ?_)
 refine qs (qr (oN 1 [] [0, 1] ?_))
 refine oe (nt (qs (qs (qr (oN 2 [(10, vb (decide (x1 ≤ 0)))] [0, 1] ?_)))))
 refine oe (nt (cC h (fun h22 => ?_) (fun h23 => ?_)))
 · refine qs (qr (oN 1 [(4, vi 0)] [0] ?_))
   refine oe (nt (qe (nr (rt [.int .i64 0] (fun γ w hs => ?_)))))
   rw [← sI h22]
   exact hs.curPost hg () (is := [0]) rfl
 refine qk (nt (qs (qs (qr (oN 2 [(12, vb (decide (x1 ≤ 256)))] [0, 1] ?_)))))
 refine oe (nt (cC h23 (fun h32 => ?_) (fun h33 => ?_)))
 · refine qs (qr (oN 1 [(13, .q p0 0)] [0, 1] ?_))
   obtain ⟨t34, h35, h36⟩ := bS h32
   refine JO_callC rfl (by kernel_rfl) (f := 76) (args := fun γ => #[(SV.q p0 0).den []]) (fun γ => by kernel_rfl) (x0 := CurD.mk xb0 xi0 xh0) (x1 := CurD.mk xb0 t34.2.1 t34.2.2) (Rr := []) rfl hs0 (fun γ w hs => (by have vv := c_spec_l01Byte (p0 := p0) (W := w) h35 (hs0.kept hs.kept); exact vv)) (fun (y37 : Unit) => [(14, vi t34.1), (13, .q p0 0), (0, .q p0 0), (1, vi x1)]) (fun y37 => by kernel_rfl) (fun y37 => ?_)
   refine oN 1 [(15, vi x1)] [14, 0] ?_
   obtain ⟨u40, hz39, h38⟩ := bS h36
   refine JO_div rfl (by kernel_rfl) (op := .rem) (k := .i64) (x := t34.1) (y := x1) (by kernel_rfl) (nz_some hz39) rfl ?_
   refine oN 1 [(4, vi (Int.tmod t34.1 x1))] [0] ?_
   refine oe (nt (qe (nr (rt [.int .i64 (Int.tmod t34.1 x1)] (fun γ w hs => ?_)))))
   rw [← sI h38]
   exact hs.curPost hg () (is := [0]) rfl
 refine qk (nt (qs (qr (oN 1 [(17, .q p0 0)] [0, 1] ?_))))
 obtain ⟨t41, h42, h43⟩ := bS h33
 refine JO_callC rfl (by kernel_rfl) (f := 76) (args := fun γ => #[(SV.q p0 0).den []]) (fun γ => by kernel_rfl) (x0 := CurD.mk xb0 xi0 xh0) (x1 := CurD.mk xb0 t41.2.1 t41.2.2) (Rr := []) rfl hs0 (fun γ w hs => (by have vv := c_spec_l01Byte (p0 := p0) (W := w) h42 (hs0.kept hs.kept); exact vv)) (fun (y44 : Unit) => [(18, vi t41.1), (17, .q p0 0), (0, .q p0 0), (1, vi x1)]) (fun y44 => by kernel_rfl) (fun y44 => ?_)
 refine oN 1 [(5, vi t41.1)] [0, 1] ?_
 refine oe (nt (qs (qr (oN 1 [(19, .q p0 0)] [5, 0, 1] ?_))))
 obtain ⟨t45, h46, h47⟩ := bS h43
 refine JO_callC rfl (by kernel_rfl) (f := 76) (args := fun γ => #[(SV.q p0 0).den []]) (fun γ => by kernel_rfl) (x0 := CurD.mk xb0 t41.2.1 t41.2.2) (x1 := CurD.mk xb0 t45.2.1 t45.2.2) (Rr := []) rfl hs0 (fun γ w hs => (by have vv := c_spec_l01Byte (p0 := p0) (W := w) h46 (hs0.kept hs.kept); exact vv)) (fun (y48 : Unit) => [(20, vi t45.1), (19, .q p0 0), (5, vi t41.1), (0, .q p0 0), (1, vi x1)]) (fun y48 => by kernel_rfl) (fun y48 => ?_)
 refine oN 1 [(6, vi t45.1)] [5, 0, 1] ?_
 refine oe (nt (qs (qr (oN 1 [(21, .q p0 0)] [6, 5, 0, 1] ?_))))
 obtain ⟨t49, h50, h51⟩ := bS h47
 refine JO_callC rfl (by kernel_rfl) (f := 76) (args := fun γ => #[(SV.q p0 0).den []]) (fun γ => by kernel_rfl) (x0 := CurD.mk xb0 t45.2.1 t45.2.2) (x1 := CurD.mk xb0 t49.2.1 t49.2.2) (Rr := []) rfl hs0 (fun γ w hs => (by have vv := c_spec_l01Byte (p0 := p0) (W := w) h50 (hs0.kept hs.kept); exact vv)) (fun (y52 : Unit) => [(22, vi t49.1), (21, .q p0 0), (6, vi t45.1), (5, vi t41.1), (0, .q p0 0), (1, vi x1)]) (fun y52 => by kernel_rfl) (fun y52 => ?_)
 refine oN 1 [(7, vi t49.1)] [6, 5, 0, 1] ?_
 refine oe (nt (qs (qr (oN 1 [(23, .q p0 0)] [7, 6, 5, 0, 1] ?_))))
 obtain ⟨t53, h54, h55⟩ := bS h51
 refine JO_callC rfl (by kernel_rfl) (f := 76) (args := fun γ => #[(SV.q p0 0).den []]) (fun γ => by kernel_rfl) (x0 := CurD.mk xb0 t49.2.1 t49.2.2) (x1 := CurD.mk xb0 t53.2.1 t53.2.2) (Rr := []) rfl hs0 (fun γ w hs => (by have vv := c_spec_l01Byte (p0 := p0) (W := w) h54 (hs0.kept hs.kept); exact vv)) (fun (y56 : Unit) => [(24, vi t53.1), (23, .q p0 0), (7, vi t49.1), (6, vi t45.1), (5, vi t41.1), (0, .q p0 0), (1, vi x1)]) (fun y56 => by kernel_rfl) (fun y56 => ?_)
 refine oN 1 [(8, vi t53.1)] [7, 6, 5, 0, 1] ?_
 refine oe (nt (qs (qr (oN 11 [(35, vi x1), (34, vi (w64 ((w64 ((w64 ((w64 (t41.1 * 16777216)) + (w64 (t45.1 * 65536)))) + (w64 (t49.1 * 256)))) + t53.1)))] [0] ?_))))
 obtain ⟨u59, hz58, h57⟩ := bS h55
 refine JO_div rfl (by kernel_rfl) (op := .rem) (k := .i64) (x := (w64 ((w64 ((w64 ((w64 (t41.1 * 16777216)) + (w64 (t45.1 * 65536)))) + (w64 (t49.1 * 256)))) + t53.1))) (y := x1) (by kernel_rfl) (nz_some hz58) rfl ?_
 refine oN 1 [(4, vi (Int.tmod (w64 ((w64 ((w64 ((w64 (t41.1 * 16777216)) + (w64 (t45.1 * 65536)))) + (w64 (t49.1 * 256)))) + t53.1)) x1))] [0] ?_
 refine oe (nt (qe (rt [.int .i64 (Int.tmod (w64 ((w64 ((w64 ((w64 (t41.1 * 16777216)) + (w64 (t45.1 * 65536)))) + (w64 (t49.1 * 256)))) + t53.1)) x1)] (fun γ w hs => ?_))))
 rw [← sI h57]
 exact hs.curPost hg () (is := [0]) rfl

theorem c_spec_DrawPlaces {W : World} {x0 : List U8} {a0_0 : Option Addr} {c0_0 : Nat} {r : (List Int)} (h : spec_DrawPlaces x0 = some r) (hv0_0 : SlView W x0 a0_0 c0_0) :
    Gives Try.prog 34 #[.slice a0_0 x0.length c0_0] W (fun y : AC => .slice y.1 r.length y.2) (fun y => [SlRes 3 r y.1 y.2]) := by
 unfold spec_DrawPlaces at h
 refine en Try.func34 Try.ntmps34 ?_
 refine qs (qr (oN 1 [] [0] ?_))
 refine oe (nt (qs (qr (oN 1 [(6, .v (.slice a0_0 x0.length c0_0))] [] ?_))))
 obtain ⟨t21, h22, h23⟩ := bS h
 refine JO_callN rfl (by kernel_rfl) (f := 63) (args := #[.slice a0_0 x0.length c0_0]) (by kernel_rfl) (fun γ w hs => (by have vv := c_spec_l01New (W := w) h22 (hv0_0.kept hs.kept); exact vv)) (fun y24 => [(7, .q y24.1 0), (6, .v (.slice a0_0 x0.length c0_0))]) (fun y24 => by kernel_rfl) (fun y24 => ?_)
 refine oN 1 [(3, .q y24.1 0)] [] ?_
 refine oe (nt (qs (qr (ob [] [CurRes 86 (CurD.mk x0 t21.1 t21.2) y24.1 a0_0 c0_0] 3 0 [] ([] : List Int) (own_flat (by kernel_rfl)) (fun y25 => ?_)))))
 refine oN 1 [(4, .v (.slice y25.1 ([] : List Int).length y25.2))] [3] ?_
 refine oe (nt (qs (qs (qr (oN 1 [(5, vi 0)] [4, 3] ?_)))))
 refine oe (nt ?_)
 obtain ⟨r30, hL31, h32⟩ := bS h23
 obtain ⟨k33, hk34, h32⟩ := brkS h32
 refine JC_cutP (τ := ((List Int)) × (AC)) (fun y => k33 y.1 = some r) (fun y38 => [(4, .v (.slice y38.2.1 y38.1.length y38.2.2))]) (fun y38 => []) (fun y38 => [SlRes 3 y38.1 y38.2.1 y38.2.2]) ?_ (fun y38 h39p => ?_)
 · refine qb (lp AC hL31 (fun s27 y28 => [(5, vi s27.1), (4, .v (.slice y28.1 s27.2.1.length y28.2)), (3, .q y24.1 0)]) (fun s27 y28 => []) (fun s27 y28 => [SlRes 3 s27.2.1 y28.1 y28.2, CurRes 86 (CurD.mk x0 s27.2.2.1 s27.2.2.2) y24.1 a0_0 c0_0]) (y25.1, y25.2) [5, 4, 3] [0, 0] 0 (fun s27 y28 t29 h35 hd36 => ?_))
   refine qs (qs (qr (oN 2 [(10, vb (decide (s27.1 < 12)))] [5, 4, 3] ?_)))
   refine oe (nt (cC h35 (fun h41 => ?_) (fun h42 => ?_)))
   · refine qk (nt (qs (qb (qr (oN 2 [(14, .q y24.1 0), (13, .v (.slice y28.1 s27.2.1.length y28.2))] [5, 3] ?_)))))
     refine or_ [1, 0] ?_
     obtain ⟨t43, h44, h45⟩ := bS h41
     refine JO_callC rfl (by kernel_rfl) (f := 64) (args := fun γ => #[(SV.q y24.1 0).den [], .int .i64 10000]) (fun γ => by kernel_rfl) (x0 := CurD.mk x0 s27.2.2.1 s27.2.2.2) (x1 := CurD.mk x0 t43.2.1 t43.2.2) (Rr := [SlRes 3 s27.2.1 y28.1 y28.2]) rfl (Seen.of hv0_0) (fun γ w hs => (by have vv := c_spec_l01Below (p0 := y24.1) (W := w) h44 (hv0_0.kept hs.kept); exact vv)) (fun (y46 : Unit) => [(15, vi t43.1), (14, .q y24.1 0), (13, .v (.slice y28.1 s27.2.1.length y28.2)), (5, vi s27.1), (3, .q y24.1 0)]) (fun y46 => by kernel_rfl) (fun y46 => ?_)
     refine ob [] [CurRes 86 (CurD.mk x0 t43.2.1 t43.2.2) y24.1 a0_0 c0_0, SlRes 3 s27.2.1 y28.1 y28.2] 3 1 [.int .i64 t43.1] ([t43.1] : List Int) (own_flat (by kernel_rfl)) (fun y47 => ?_)
     refine or_ [2, 0, 0] ?_
     obtain ⟨l50, hm51, h52⟩ := bS h45
     refine oa 24 y47.2 Try.t3 (.int .i64 0) (fun γ w hs => ⟨y47.2, (hs.view 1 rfl)⟩) hm51 (fun y49 => ?_)
     refine oN 1 [(4, .v (.slice y49.1 l50.length y49.2))] [5, 3] ?_
     refine oe (bn (nt (qr (oN 3 [(5, vi (w64 (s27.1 + 1)))] [4, 3] ?_))))
     exact oe (ct h52 (y49.1, y49.2) [5, 4, 3] [0, 1] 0)
   refine qx (nx (nx (bh ?_)))
   have h53 := leafB hd36 h42 h32
   exact mp (s27.2.1, (y28.1, y28.2)) h53 [4] [0] 0
 have h39 := (congrFun hk34 _).symm.trans h39p
 refine nt (qs (qr (oN 2 [(2, .v (.slice y38.2.1 y38.1.length y38.2.2))] [] ?_)))
 refine oe (nt (qe (rt [.slice y38.2.1 y38.1.length y38.2.2] (fun γ w hs => ?_))))
 rw [← sI h39]
 exact ⟨y38.2, rfl, hs.kept.toBelow, (hs.takeR (is := [0]) rfl).fresh⟩

theorem c_impl_within {W : World} {x0 : Int} {x1 : Int} {x2 : Int} {r : Bool} (h : impl_within x0 x1 x2 = some r)  :
    Gives0 Try.prog 58 #[.int .i64 x0, .int .i64 x1, .int .i64 x2] W (.bool r) := by
 unfold impl_within at h
 refine en Try.func58 Try.ntmps58 ?_
 refine qs (qr (oN 1 [] [0, 1, 2] ?_))
 refine oe (nt (qs ?_))
 obtain ⟨p21, hE22, h23⟩ := bS h
 refine JC_cut (τ := Unit) (fun _ => [(6, vb p21)]) (fun _ => []) (fun _ => []) ?_ (fun _ => ?_)
 · refine qr (oN 4 [(10, vb (decide (x1 ≤ x0)))] [0, 2] ?_)
   refine oS 10 hE22 (fun h25 => ?_) (fun h26 => ?_)
   · refine oN 5 [(6, vb (decide (x0 ≤ x2)))] [] ?_
     refine oe ?_
     obtain rfl := sI h25
     exact mt () [6] [] 0
   refine oN 5 [(6, vb false)] [] ?_
   refine oe ?_
   obtain rfl := sI h26
   exact mt () [6] [] 0
 refine nt (qe ?_)
 obtain rfl := sI h23
 exact re [.bool p21]

theorem c_impl_ceilDiv {W : World} {x0 : Int} {x1 : Int} {r : Int} (h : impl_ceilDiv x0 x1 = some r)  :
    Gives0 Try.prog 65 #[.int .i64 x0, .int .i64 x1] W (.int .i64 r) := by
 unfold impl_ceilDiv at h
 refine en Try.func65 Try.ntmps65 ?_
 refine qs (qr (oN 1 [] [0, 1] ?_))
 refine oe (nt (qs (qr (oN 5 [(9, vi x1), (8, vi (w64 ((w64 (x0 + x1)) - 1)))] [] ?_))))
 obtain ⟨u23, hz22, h21⟩ := bS h
 refine JO_div rfl (by kernel_rfl) (op := .quo) (k := .i64) (x := (w64 ((w64 (x0 + x1)) - 1))) (y := x1) (by kernel_rfl) (nz_some hz22) rfl ?_
 refine oN 1 [(4, vi (w64 (Int.tdiv (w64 ((w64 (x0 + x1)) - 1)) x1)))] [] ?_
 refine oe (nt (qe ?_))
 obtain rfl := sI h21
 exact re [.int .i64 (w64 (Int.tdiv (w64 ((w64 (x0 + x1)) - 1)) x1))]

theorem c_impl_AssetsNeeded {W : World} {x0 : Int} {x1 : Int} {r : Int} (h : impl_AssetsNeeded x0 x1 = some r)  :
    Gives0 Try.prog 35 #[.int .i64 x0, .int .i64 x1] W (.int .i64 r) := by
 unfold impl_AssetsNeeded at h
 refine en Try.func35 Try.ntmps35 ?_
 refine qs (qr (oN 1 [] [0, 1] ?_))
 refine oe (nt (qs (qs ?_)))
 obtain ⟨p21, hE22, h23⟩ := bS h
 refine JC_cut (τ := Unit) (fun _ => [(0, vi x0), (1, vi x1), (12, vb p21)]) (fun _ => []) (fun _ => []) ?_ (fun _ => ?_)
 · refine qr (oN 1 [(5, vi x0)] [0, 1] ?_)
   obtain ⟨t24, h25, h26⟩ := bS hE22
   refine k0 (fun γ w hs => c_impl_within h25) ?_
   refine oN 2 [(8, vb (!t24))] [0, 1] ?_
   refine oS 8 h26 (fun h29 => ?_) (fun h30 => ?_)
   · refine oN 4 [(12, vb true)] [0, 1] ?_
     refine oe ?_
     obtain rfl := sI h29
     exact mt () [0, 1, 12] [] 0
   refine oN 1 [(9, vi x1)] [8, 0, 1] ?_
   obtain ⟨t31, h32, h33⟩ := bS h30
   refine k0 (fun γ w hs => c_impl_within h32) ?_
   refine oN 2 [(12, vb (!t31))] [0, 1] ?_
   refine oe ?_
   obtain rfl := sI h33
   exact mt () [0, 1, 12] [] 0
 refine nt (cC h23 (fun h36 => ?_) (fun h37 => ?_))
 · refine qs (qr (oN 1 [(4, vi 0)] [] ?_))
   refine oe (nt (qe (nr ?_)))
   obtain rfl := sI h36
   exact re [.int .i64 0]
 refine qk (nt (qs (qr (oN 3 [(15, vi (w64 (x0 * x1)))] [] ?_))))
 obtain ⟨t38, h39, h40⟩ := bS h37
 refine k0 (fun γ w hs => c_impl_ceilDiv h39) ?_
 refine oN 1 [(4, vi t38)] [] ?_
 refine oe (nt (qe ?_))
 obtain rfl := sI h40
 exact re [.int .i64 t38]

theorem c_impl_CoverageOf {W : World} {x0 : Int} {x1 : Int} {r : Int} (h : impl_CoverageOf x0 x1 = some r)  :
    Gives0 Try.prog 36 #[.int .i64 x0, .int .i64 x1] W (.int .i64 r) := by
 unfold impl_CoverageOf at h
 refine en Try.func36 Try.ntmps36 ?_
 refine qs (qr (oN 1 [] [0, 1] ?_))
 refine oe (nt (qs (qs ?_)))
 obtain ⟨p21, hE22, h23⟩ := bS h
 refine JC_cut (τ := Unit) (fun _ => [(0, vi x0), (1, vi x1), (12, vb p21)]) (fun _ => []) (fun _ => []) ?_ (fun _ => ?_)
 · refine qr (oN 1 [(5, vi x0)] [0, 1] ?_)
   obtain ⟨t24, h25, h26⟩ := bS hE22
   refine k0 (fun γ w hs => c_impl_within h25) ?_
   refine oN 2 [(8, vb (!t24))] [0, 1] ?_
   refine oS 8 h26 (fun h29 => ?_) (fun h30 => ?_)
   · refine oN 4 [(12, vb true)] [0, 1] ?_
     refine oe ?_
     obtain rfl := sI h29
     exact mt () [0, 1, 12] [] 0
   refine oN 1 [(9, vi x1)] [8, 0, 1] ?_
   obtain ⟨t31, h32, h33⟩ := bS h30
   refine k0 (fun γ w hs => c_impl_within h32) ?_
   refine oN 2 [(12, vb (!t31))] [0, 1] ?_
   refine oe ?_
   obtain rfl := sI h33
   exact mt () [0, 1, 12] [] 0
 refine nt (cC h23 (fun h36 => ?_) (fun h37 => ?_))
 · refine qs (qr (oN 1 [(4, vi 0)] [] ?_))
   refine oe (nt (qe (nr ?_)))
   obtain rfl := sI h36
   exact re [.int .i64 0]
 refine qk (nt (qs (qs (qr (oN 2 [(14, vb (x1 == 0))] [0, 1] ?_)))))
 refine oe (nt (cC h37 (fun h39 => ?_) (fun h40 => ?_)))
 · refine qs (qr (oN 1 [(4, vi 10000)] [] ?_))
   refine oe (nt (qe (nr ?_)))
   obtain rfl := sI h39
   exact re [.int .i64 10000]
 refine qk (nt (qs (qr (oN 3 [(17, vi x1), (16, vi (w64 (x0 * 1000)))] [] ?_))))
 obtain ⟨u43, hz42, h41⟩ := bS h40
 refine JO_div rfl (by kernel_rfl) (op := .quo) (k := .i64) (x := (w64 (x0 * 1000))) (y := x1) (by kernel_rfl) (nz_some hz42) rfl ?_
 refine oN 2 [(4, vi (imin 10000 (w64 (Int.tdiv (w64 (x0 * 1000)) x1))))] [] ?_
 refine oe (nt (qe ?_))
 obtain rfl := sI h41
 exact re [.int .i64 (imin 10000 (w64 (Int.tdiv (w64 (x0 * 1000)) x1)))]

theorem c_impl_SolvencyOf {W : World} {x0 : Int} {r : Int} (h : impl_SolvencyOf x0 = some r)  :
    Gives0 Try.prog 37 #[.int .i64 x0] W (.int .i64 r) := by
 unfold impl_SolvencyOf at h
 refine en Try.func37 Try.ntmps37 ?_
 refine qs (qr (oN 1 [] [0] ?_))
 refine oe (nt (qs (qb (qs (qr (oN 3 [(3, vb (decide (x0 < 1000)))] [0] ?_))))))
 refine oe (nt (cC h (fun h25 => ?_) (fun h26 => ?_)))
 · refine qs (qr (oN 1 [(2, vi 0)] [] ?_))
   refine oe (nt (qe (br (nr ?_))))
   obtain rfl := sI h25
   exact re [.int .i64 0]
 refine qs (qr (oN 3 [(6, vb (decide (x0 < 1050)))] [] ?_))
 refine oe (nt (cC h26 (fun h28 => ?_) (fun h29 => ?_)))
 · refine qs (qr (oN 1 [(2, vi 1)] [] ?_))
   refine oe (nt (qe (br (nr ?_))))
   obtain rfl := sI h28
   exact re [.int .i64 1]
 refine qk (bn (nt (qs (qr (oN 1 [(2, vi 2)] [] ?_)))))
 refine oe (nt (qe ?_))
 obtain rfl := sI h29
 exact re [.int .i64 2]

theorem c_laws_FnCoverage {W : World} {x0 : List U8} {a0_0 : Option Addr} {c0_0 : Nat} {r : Bool} (h : laws_FnCoverage x0 = some r) (hv0_0 : SlView W x0 a0_0 c0_0) :
    Gives0 Try.prog 7 #[.slice a0_0 x0.length c0_0] W (.bool r) := by
 unfold laws_FnCoverage at h
 refine en Try.func7 Try.ntmps7 ?_
 refine qs (qr (oN 1 [] [0] ?_))
 refine oe (nt (qs (qs (qr (oN 1 [(9, .v (.slice a0_0 x0.length c0_0))] [0] ?_)))))
 obtain ⟨t21, h22, h23⟩ := bS h
 refine k0 (fun γ w hs => c_laws_big h22 (hv0_0.kept hs.kept)) ?_
 refine oe (nt (cC h23 (fun h26 => ?_) (fun h27 => ?_)))
 · refine qs (qr (oN 1 [(2, vb true)] [] ?_))
   refine oe (nt (qe (nr ?_)))
   obtain rfl := sI h26
   exact re [.bool true]
 refine qk (nt (qs (qr (oN 1 [(11, .v (.slice a0_0 x0.length c0_0))] [] ?_))))
 obtain ⟨t28, h29, h30⟩ := bS h27
 refine k1 (fun γ w hs => c_spec_DrawPlaces h29 (hv0_0.kept hs.kept)) (fun y31 => ?_)
 refine oN 1 [(3, .v (.slice y31.1 t28.length y31.2))] [] ?_
 refine oe (nt (qs (qr (oN 1 [(13, .v (.slice y31.1 t28.length y31.2))] [3] ?_))))
 obtain ⟨x32, hx33, h34⟩ := bS h30
 refine oi 1 (fun γ w hs => (hs.view 0 rfl)) hx33 ?_
 refine ol 3 0 (.int .i64 x32) (fun γ w hs => (hs.view 0 rfl).flatq hx33) ?_
 refine oN 3 [(4, vi (w64 (1 + (w64 (x32 * 7)))))] [3] ?_
 refine oe (nt (qs (qr (oN 1 [(18, .v (.slice y31.1 t28.length y31.2))] [4] ?_))))
 obtain ⟨x35, hx36, h37⟩ := bS h34
 refine oi 1 (fun γ w hs => (hs.view 0 rfl)) hx36 ?_
 refine ol 3 0 (.int .i64 x35) (fun γ w hs => (hs.view 0 rfl).flatq hx36) ?_
 refine oN 3 [(5, vi (w64 (1 + (Int.tmod x35 1900))))] [4] ?_
 refine oe (nt (qs (qr (oN 2 [(24, vi (w64 (1 + (Int.tmod x35 1900)))), (23, vi (w64 (1 + (w64 (x32 * 7)))))] [5, 4] ?_))))
 obtain ⟨t38, h39, h40⟩ := bS h37
 refine k0 (fun γ w hs => c_impl_AssetsNeeded h39) ?_
 refine oN 1 [(6, vi t38)] [5, 4] ?_
 refine oe (nt (qs (qr (oN 2 [(27, vi (w64 (1 + (w64 (x32 * 7))))), (26, vi t38)] [6, 5, 4] ?_))))
 obtain ⟨t42, h43, h44⟩ := bS h40
 refine k0 (fun γ w hs => c_impl_CoverageOf h43) ?_
 refine oN 1 [(7, vi t42)] [6, 5, 4] ?_
 refine oe (nt (qs (qr (oN 3 [(31, vi (w64 (1 + (w64 (x32 * 7))))), (30, vi (w64 (t38 - 1)))] [7, 5] ?_))))
 obtain ⟨t46, h47, h48⟩ := bS h44
 refine k0 (fun γ w hs => c_impl_CoverageOf h47) ?_
 refine oN 1 [(8, vi t46)] [7, 5] ?_
 refine oe (nt (qs ?_))
 obtain ⟨p50, hE51, h52⟩ := bS h48
 refine JC_cut (τ := Unit) (fun _ => [(2, vb p50)]) (fun _ => []) (fun _ => []) ?_ (fun _ => ?_)
 · refine qr (oN 4 [(36, vb (decide (t42 ≥ (w64 (1 + (Int.tmod x35 1900))))))] [8, 7, 5] ?_)
   refine oS 36 hE51 (fun h54 => ?_) (fun h55 => ?_)
   · refine oN 5 [(41, vb (decide (t46 < (w64 (1 + (Int.tmod x35 1900))))))] [8, 7] ?_
     refine oS 41 h54 (fun h57 => ?_) (fun h58 => ?_)
     · refine oN 1 [(42, vi t42)] [41, 8, 7] ?_
       obtain ⟨t59, h60, h61⟩ := bS h57
       refine k0 (fun γ w hs => c_impl_SolvencyOf h60) ?_
       refine oN 6 [(49, vb ((t59 == 2) == (decide (t42 ≥ 1050))))] [8] ?_
       refine oS 49 h61 (fun h64 => ?_) (fun h65 => ?_)
       · refine oN 1 [(50, vi t46)] [49, 8] ?_
         obtain ⟨t66, h67, h68⟩ := bS h64
         refine k0 (fun γ w hs => c_impl_SolvencyOf h67) ?_
         refine oN 6 [(57, vb ((t66 == 0) == (decide (t46 < 1000))))] [] ?_
         refine oS 57 h68 (fun h71 => ?_) (fun h72 => ?_)
         · obtain ⟨t73, h74, h75⟩ := bS h71
           refine k0 (fun γ w hs => c_impl_CoverageOf h74) ?_
           refine oN 3 [(2, vb (t73 == 10000))] [] ?_
           refine oe ?_
           obtain rfl := sI h75
           exact mt () [2] [] 0
         refine oN 4 [(2, vb false)] [] ?_
         refine oe ?_
         obtain rfl := sI h72
         exact mt () [2] [] 0
       refine oN 12 [(2, vb false)] [] ?_
       refine oe ?_
       obtain rfl := sI h65
       exact mt () [2] [] 0
     refine oN 20 [(2, vb false)] [] ?_
     refine oe ?_
     obtain rfl := sI h58
     exact mt () [2] [] 0
   refine oN 25 [(2, vb false)] [] ?_
   refine oe ?_
   obtain rfl := sI h55
   exact mt () [2] [] 0
 refine nt (qe ?_)
 obtain rfl := sI h52
 exact re [.bool p50]
end Go.Pen
