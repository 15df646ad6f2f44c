/-
  Each Go function does what its plain function says: written by a program of ours.
-/
import Derived.Test.YtgdhafgblfapiaaF
import Derived.Test.YtgdhafgblfapiaaProg
import Derived.Test.YtgdhafgblfapiaaPenK
import Derived.Test.YtgdhafgblfapiaaPenJ
import Derived.Test.YtgdhafgblfapiaaPenP
namespace Go.Pen
open Go.Proofs Go.RowKit
set_option linter.unusedVariables false
set_option linter.unusedSimpArgs false
set_option maxRecDepth 100000
set_option maxHeartbeats 4000000

theorem c_laws_big {W : World} {x0 : List U8} {a0_0 : Option Addr} {c0_0 : Nat} {r : Bool} (h : laws_big x0 = some r) (hv0_0 : SlView W x0 a0_0 c0_0) :
    Gives0 Try.prog 33 #[.slice a0_0 x0.length c0_0] W (.bool r) := by
 unfold laws_big at h
 refine en Try.func33 Try.ntmps33 ?_
 refine qs (qr (oN 1 [] [0] ?_))
 refine oe (nt (qs (qr (oN 4 [(2, vb (decide ((x0.length : Int) > 1048576)))] [] ?_))))
 refine oe (nt (qe ?_))
 obtain rfl := sI h
 exact re [.bool (decide ((x0.length : Int) > 1048576))]

theorem c_spec_l01New {W : World} {x0 : List U8} {a0_0 : Option Addr} {c0_0 : Nat} {r : Int × Int} (h : spec_l01New x0 = some r) (hv0_0 : SlView W x0 a0_0 c0_0) :
    Gives Try.prog 63 #[.slice a0_0 x0.length c0_0] W (fun y : AC => (SV.q y.1 0).den []) (fun y => [CurRes 86 (CurD.mk x0 r.1 r.2) y.1 a0_0 c0_0]) := by
 unfold spec_l01New at h
 refine en Try.func63 Try.ntmps63 ?_
 refine qs (qr (oN 1 [] [0] ?_))
 refine oe (nt (qs (qr (oN 4 [(3, vi (w64 (98011 + (x0.length : Int))))] [0] ?_))))
 refine oe (nt (qs (qs (qr (oN 1 [(4, vi 0)] [3, 0] ?_)))))
 refine oe (nt ?_)
 obtain ⟨r24, hL25, h26⟩ := bS h
 obtain ⟨k27, hk28, h26⟩ := brkS h26
 refine JC_cutP (τ := (Int) × (Unit)) (fun y => k27 y.1 = some r) (fun y32 => [(3, vi y32.1), (0, .v (.slice a0_0 x0.length c0_0))]) (fun y32 => []) (fun y32 => []) ?_ (fun y32 h33p => ?_)
 · refine qb (lp Unit hL25 (fun s21 y22 => [(4, vi s21.1), (3, vi s21.2), (0, .v (.slice a0_0 x0.length c0_0))]) (fun s21 y22 => []) (fun s21 y22 => []) () [4, 3, 0] [] 0 (fun s21 y22 t23 h29 hd30 => ?_))
   refine qs (qs ?_)
   obtain ⟨p35, hE36, h37⟩ := bS h29
   refine JC_cut (τ := Unit) (fun _ => [(0, .v (.slice a0_0 x0.length c0_0)), (3, vi s21.2), (4, vi s21.1), (15, vb p35)]) (fun _ => []) (fun _ => []) ?_ (fun _ => ?_)
   · refine qr (oN 5 [(12, vb (decide (s21.1 < (x0.length : Int))))] [4, 3, 0] ?_)
     refine oS 12 hE36 (fun h39 => ?_) (fun h40 => ?_)
     · refine oN 3 [(15, vb (decide (s21.1 < 4000)))] [4, 3, 0] ?_
       refine oe ?_
       obtain rfl := sI h39
       exact mt () [0, 3, 4, 15] [] 0
     refine oN 3 [(15, vb false)] [4, 3, 0] ?_
     refine oe ?_
     obtain rfl := sI h40
     exact mt () [0, 3, 4, 15] [] 0
   refine nt (cC h37 (fun h42 => ?_) (fun h43 => ?_))
   · refine qk (nt (qs (qb (qr (oN 4 [(21, vi s21.1), (20, .v (.slice a0_0 x0.length c0_0)), (19, vi (w64 (s21.2 * 131)))] [0, 4] ?_)))))
     obtain ⟨x44, hx45, h46⟩ := bS h42
     refine oi 1 (fun γ w hs => (hv0_0.kept hs.kept)) hx45 ?_
     refine ol 5 0 (.int .u8 x44.n) (fun γ w hs => (hv0_0.kept hs.kept).flatq hx45) ?_
     refine oN 5 [(3, vi (and64 (w64 ((w64 ((w64 (s21.2 * 131)) + (w64 x44.n))) + 7)) 1073741823))] [0, 4] ?_
     refine oe (bn (nt (qr (oN 3 [(4, vi (w64 (s21.1 + 1)))] [3, 0] ?_))))
     exact oe (ct h46 () [4, 3, 0] [] 0)
   refine qx (nx (nx (bh ?_)))
   have h47 := leafB hd30 h43 h26
   exact mp (s21.2, ()) h47 [3, 0] [] 0
 have h33 := (congrFun hk28 _).symm.trans h33p
 refine nt (qs (qr (oN 3 [(30, .v (.agg #[.slice a0_0 x0.length c0_0, .int .i64 0, .int .i64 y32.1]))] [] ?_)))
 refine JO_newcur rfl (by kernel_rfl) (e := 86) (x := (CurD.mk x0 0 y32.1)) (a0 := a0_0) (c := c0_0) (cs := curCells (CurD.mk x0 0 y32.1) a0_0 c0_0) (by kernel_rfl) rfl (fun y34 => [(31, .q y34.1 0), (30, .v (.agg #[.slice a0_0 x0.length c0_0, .int .i64 0, .int .i64 y32.1]))]) (fun y34 => by kernel_rfl) (fun y34 => ?_)
 refine oN 1 [(2, .q y34.1 0)] [] ?_
 refine oe (nt (qe (JE_q1 ?_)))
 refine rt [(SV.q y34.1 0).den []] (fun γ w hs => ?_)
 rw [← sI h33]
 exact ⟨y34, rfl, hs.kept.toBelow, (hs.takeR (is := [0]) rfl).fresh⟩

theorem c_spec_l01Byte {W : World} {xb0 : List U8} {xi0 xh0 : Int} {p0 ca0 : Option Addr} {cc0 : Nat} {r : Int × Int × Int} (h : spec_l01Byte xb0 xi0 xh0 = some r) (hv0_0 : SlView W xb0 ca0 cc0) :
    GivesC Try.prog 86 76 #[(SV.q p0 0).den []] W (CurD.mk xb0 xi0 xh0) p0 ca0 cc0 (CurD.mk xb0 r.2.1 r.2.2) (fun y : Unit => .int .i64 r.1) (fun y => []) := by
 unfold spec_l01Byte at h
 refine enterC [.q p0 0] (args := [(SV.q p0 0).den []]) hv0_0 (by kernel_rfl) (by kernel_rfl) Try.func76 rfl Try.ntmps76 (by kernel_rfl) (fun g hg hs0 => ?_)
 refine qs (qr (oN 1 [] [0] ?_))
 refine oe (nt (qs (qr (oN 2 [(5, .q p0 0), (4, .q p0 0)] [0] ?_))))
 refine JO_nilq rfl (by kernel_rfl) (d := p0) (k := 0) (by kernel_rfl) (sl' := [(6, .q p0 0), (5, .q p0 0), (4, .q p0 0), (0, .q p0 0)]) (by kernel_rfl) ?_
 refine oN 1 [(7, .q p0 (0 + 2))] [4, 0] ?_
 refine ol 3 2 (.int .i64 xh0) (fun γ w hs => hs.cur 0 rfl) ?_
 refine oN 2 [(10, vi (w64 ((w64 (xh0 * 6364136223846793005)) + 1442695040888963407)))] [4, 0] ?_
 refine JO_nilq rfl (by kernel_rfl) (d := p0) (k := 0) (by kernel_rfl) (sl' := [(11, .q p0 0), (10, vi (w64 ((w64 (xh0 * 6364136223846793005)) + 1442695040888963407))), (4, .q p0 0), (0, .q p0 0)]) (by kernel_rfl) ?_
 refine oN 1 [(12, .q p0 (0 + 2))] [10, 0] ?_
 refine JO_cstore (e := 86) (x := CurD.mk xb0 xi0 xh0) (x' := CurD.mk xb0 xi0 (w64 ((w64 (xh0 * 6364136223846793005)) + 1442695040888963407))) (p := p0) (a0 := ca0) (c := cc0) rfl (by kernel_rfl) (2) (vs := [.int .i64 (w64 ((w64 (xh0 * 6364136223846793005)) + 1442695040888963407))]) (by kernel_rfl) (by kernel_rfl) (by kernel_rfl) (Rr := []) rfl (sl' := [(12, .q p0 (0 + 2)), (10, vi (w64 ((w64 (xh0 * 6364136223846793005)) + 1442695040888963407))), (0, .q p0 0)]) (by kernel_rfl) ?_
 refine oe (nt (qs (JC_quiet (by kernel_rfl) (by kernel_rfl) ?_)))
 refine qN 1 [(13, .q p0 0)] [0] ?_
 refine JQ_nilq rfl (by kernel_rfl) (d := p0) (k := 0) (by kernel_rfl) (sl' := [(14, .q p0 0), (13, .q p0 0), (0, .q p0 0)]) (by kernel_rfl) ?_
 refine qN 1 [(15, .q p0 (0 + 2))] [0] ?_
 refine ql 3 2 (.int .i64 (w64 ((w64 (xh0 * 6364136223846793005)) + 1442695040888963407))) (fun γ w hs => hs.cur 0 rfl) ?_
 refine qN 2 [(18, .q p0 0), (17, vi (Int.fdiv (w64 ((w64 (xh0 * 6364136223846793005)) + 1442695040888963407)) 8589934592))] [0] ?_
 refine JQ_nilq rfl (by kernel_rfl) (d := p0) (k := 0) (by kernel_rfl) (sl' := [(19, .q p0 0), (18, .q p0 0), (17, vi (Int.fdiv (w64 ((w64 (xh0 * 6364136223846793005)) + 1442695040888963407)) 8589934592)), (0, .q p0 0)]) (by kernel_rfl) ?_
 refine qN 1 [(20, .q p0 (0 + 2))] [17, 0] ?_
 refine ql 3 2 (.int .i64 (w64 ((w64 (xh0 * 6364136223846793005)) + 1442695040888963407))) (fun γ w hs => hs.cur 0 rfl) ?_
 refine qN 4 [(3, vi (and64 (xor64 (Int.fdiv (w64 ((w64 (xh0 * 6364136223846793005)) + 1442695040888963407)) 8589934592) (Int.fdiv (w64 ((w64 (xh0 * 6364136223846793005)) + 1442695040888963407)) 35184372088832)) 255))] [0] ?_
 refine qz (nt (qs (qs (JC_quiet (by kernel_rfl) (by kernel_rfl) ?_))))
 refine qN 1 [(25, .q p0 0)] [3, 0] ?_
 refine JQ_nilq rfl (by kernel_rfl) (d := p0) (k := 0) (by kernel_rfl) (sl' := [(26, .q p0 0), (25, .q p0 0), (3, vi (and64 (xor64 (Int.fdiv (w64 ((w64 (xh0 * 6364136223846793005)) + 1442695040888963407)) 8589934592) (Int.fdiv (w64 ((w64 (xh0 * 6364136223846793005)) + 1442695040888963407)) 35184372088832)) 255)), (0, .q p0 0)]) (by kernel_rfl) ?_
 refine qN 1 [(27, .q p0 (0 + 1))] [3, 0] ?_
 refine ql 3 1 (.int .i64 xi0) (fun γ w hs => hs.cur 0 rfl) ?_
 refine qN 1 [(29, .q p0 0)] [28, 3, 0] ?_
 refine JQ_nilq rfl (by kernel_rfl) (d := p0) (k := 0) (by kernel_rfl) (sl' := [(30, .q p0 0), (29, .q p0 0), (28, vi xi0), (3, vi (and64 (xor64 (Int.fdiv (w64 ((w64 (xh0 * 6364136223846793005)) + 1442695040888963407)) 8589934592) (Int.fdiv (w64 ((w64 (xh0 * 6364136223846793005)) + 1442695040888963407)) 35184372088832)) 255)), (0, .q p0 0)]) (by kernel_rfl) ?_
 refine qN 1 [(31, .q p0 (0))] [28, 3, 0] ?_
 refine ql 47 0 (.slice ca0 xb0.length cc0) (fun γ w hs => hs.cur 0 rfl) ?_
 refine qN 2 [(34, vb (decide (xi0 < (xb0.length : Int))))] [3, 0] ?_
 refine qz (nt ?_)
 obtain ⟨k27, hk28, h30⟩ := jS h
 refine JC_cutP (τ := (Int × Int) × (Unit)) (fun y => k27 y.1 = some r) (fun y26 => [(3, vi y26.1.1), (0, .q p0 0)]) (fun y26 => []) (fun y26 => [CurRes 86 (CurD.mk xb0 y26.1.2 (w64 ((w64 (xh0 * 6364136223846793005)) + 1442695040888963407))) p0 ca0 cc0]) ?_ (fun y26 h29p => ?_)
 · refine cC h30 (fun h32 => ?_) (fun h33 => ?_)
   · refine qs (JC_quiet (by kernel_rfl) (by kernel_rfl) ?_)
     refine qN 2 [(36, .q p0 0), (35, vi (and64 (xor64 (Int.fdiv (w64 ((w64 (xh0 * 6364136223846793005)) + 1442695040888963407)) 8589934592) (Int.fdiv (w64 ((w64 (xh0 * 6364136223846793005)) + 1442695040888963407)) 35184372088832)) 255))] [0] ?_
     refine JQ_nilq rfl (by kernel_rfl) (d := p0) (k := 0) (by kernel_rfl) (sl' := [(37, .q p0 0), (36, .q p0 0), (35, vi (and64 (xor64 (Int.fdiv (w64 ((w64 (xh0 * 6364136223846793005)) + 1442695040888963407)) 8589934592) (Int.fdiv (w64 ((w64 (xh0 * 6364136223846793005)) + 1442695040888963407)) 35184372088832)) 255)), (0, .q p0 0)]) (by kernel_rfl) ?_
     refine qN 1 [(38, .q p0 (0))] [35, 0] ?_
     refine ql 47 0 (.slice ca0 xb0.length cc0) (fun γ w hs => hs.cur 0 rfl) ?_
     refine qN 1 [(40, .q p0 0)] [39, 35, 0] ?_
     refine JQ_nilq rfl (by kernel_rfl) (d := p0) (k := 0) (by kernel_rfl) (sl' := [(41, .q p0 0), (40, .q p0 0), (39, .v (.slice ca0 xb0.length cc0)), (35, vi (and64 (xor64 (Int.fdiv (w64 ((w64 (xh0 * 6364136223846793005)) + 1442695040888963407)) 8589934592) (Int.fdiv (w64 ((w64 (xh0 * 6364136223846793005)) + 1442695040888963407)) 35184372088832)) 255)), (0, .q p0 0)]) (by kernel_rfl) ?_
     refine qN 1 [(42, .q p0 (0 + 1))] [39, 35, 0] ?_
     refine ql 3 1 (.int .i64 xi0) (fun γ w hs => hs.cur 0 rfl) ?_
     obtain ⟨x34, hx35, h36⟩ := bS h32
     refine qi 1 (fun γ w hs => (hs0.kept hs.kept)) hx35 ?_
     refine ql 5 0 (.int .u8 x34.n) (fun γ w hs => (hs0.kept hs.kept).flatq hx35) ?_
     refine qN 4 [(3, vi (and64 (w64 ((and64 (xor64 (Int.fdiv (w64 ((w64 (xh0 * 6364136223846793005)) + 1442695040888963407)) 8589934592) (Int.fdiv (w64 ((w64 (xh0 * 6364136223846793005)) + 1442695040888963407)) 35184372088832)) 255) + (w64 x34.n))) 255))] [0] ?_
     refine qz (nt (qr (oN 2 [(50, .q p0 0), (49, .q p0 0)] [3, 0] ?_)))
     refine JO_nilq rfl (by kernel_rfl) (d := p0) (k := 0) (by kernel_rfl) (sl' := [(51, .q p0 0), (50, .q p0 0), (49, .q p0 0), (3, vi (and64 (w64 ((and64 (xor64 (Int.fdiv (w64 ((w64 (xh0 * 6364136223846793005)) + 1442695040888963407)) 8589934592) (Int.fdiv (w64 ((w64 (xh0 * 6364136223846793005)) + 1442695040888963407)) 35184372088832)) 255) + (w64 x34.n))) 255)), (0, .q p0 0)]) (by kernel_rfl) ?_
     refine oN 1 [(52, .q p0 (0 + 1))] [49, 3, 0] ?_
     refine ol 3 1 (.int .i64 xi0) (fun γ w hs => hs.cur 0 rfl) ?_
     refine oN 1 [(54, vi (w64 (xi0 + 1)))] [49, 3, 0] ?_
     refine JO_nilq rfl (by kernel_rfl) (d := p0) (k := 0) (by kernel_rfl) (sl' := [(55, .q p0 0), (54, vi (w64 (xi0 + 1))), (49, .q p0 0), (3, vi (and64 (w64 ((and64 (xor64 (Int.fdiv (w64 ((w64 (xh0 * 6364136223846793005)) + 1442695040888963407)) 8589934592) (Int.fdiv (w64 ((w64 (xh0 * 6364136223846793005)) + 1442695040888963407)) 35184372088832)) 255) + (w64 x34.n))) 255)), (0, .q p0 0)]) (by kernel_rfl) ?_
     refine oN 1 [(56, .q p0 (0 + 1))] [54, 3, 0] ?_
     refine JO_cstore (e := 86) (x := CurD.mk xb0 xi0 (w64 ((w64 (xh0 * 6364136223846793005)) + 1442695040888963407))) (x' := CurD.mk xb0 (w64 (xi0 + 1)) (w64 ((w64 (xh0 * 6364136223846793005)) + 1442695040888963407))) (p := p0) (a0 := ca0) (c := cc0) rfl (by kernel_rfl) (1) (vs := [.int .i64 (w64 (xi0 + 1))]) (by kernel_rfl) (by kernel_rfl) (by kernel_rfl) (Rr := []) rfl (sl' := [(56, .q p0 (0 + 1)), (54, vi (w64 (xi0 + 1))), (3, vi (and64 (w64 ((and64 (xor64 (Int.fdiv (w64 ((w64 (xh0 * 6364136223846793005)) + 1442695040888963407)) 8589934592) (Int.fdiv (w64 ((w64 (xh0 * 6364136223846793005)) + 1442695040888963407)) 35184372088832)) 255) + (w64 x34.n))) 255)), (0, .q p0 0)]) (by kernel_rfl) ?_
     exact oe (mp ((and64 (w64 ((and64 (xor64 (Int.fdiv (w64 ((w64 (xh0 * 6364136223846793005)) + 1442695040888963407)) 8589934592) (Int.fdiv (w64 ((w64 (xh0 * 6364136223846793005)) + 1442695040888963407)) 35184372088832)) 255) + (w64 x34.n))) 255, w64 (xi0 + 1)), ()) h36 [3, 0] [0] 0)
   exact qk (mp ((and64 (xor64 (Int.fdiv (w64 ((w64 (xh0 * 6364136223846793005)) + 1442695040888963407)) 8589934592) (Int.fdiv (w64 ((w64 (xh0 * 6364136223846793005)) + 1442695040888963407)) 35184372088832)) 255, xi0), ()) h33 [3, 0] [0] 0)
 have h29 := (congrFun hk28 _).symm.trans h29p
 refine nt (qs (qr (oN 2 [(2, vi y26.1.1)] [0] ?_)))
 refine oe (nt (qe (rt [.int .i64 y26.1.1] (fun γ w hs => ?_))))
 rw [← sI h29]
 exact hs.curPost hg () (is := [0]) rfl

theorem c_spec_l01Below {W : World} {xb0 : List U8} {xi0 xh0 : Int} {p0 ca0 : Option Addr} {cc0 : Nat} {x1 : Int} {r : Int × Int × Int} (h : spec_l01Below xb0 xi0 xh0 x1 = some r) (hv0_0 : SlView W xb0 ca0 cc0) :
    GivesC Try.prog 86 64 #[(SV.q p0 0).den [], .int .i64 x1] W (CurD.mk xb0 xi0 xh0) p0 ca0 cc0 (CurD.mk xb0 r.2.1 r.2.2) (fun y : Unit => .int .i64 r.1) (fun y => []) := by
 unfold spec_l01Below at h
 refine enterC [.q p0 0, vi x1] (args := [(SV.q p0 0).den [], .int .i64 x1]) hv0_0 (by kernel_rfl) (by kernel_rfl) Try.func64 rfl Try.ntmps64 (by kernel_rfl) (fun g hg hs0 => ?_)
 refine qs (qr (oN 1 [] [0, 1] ?_))
 refine oe (nt (qs (qs (qr (oN 2 [(10, vb (decide (x1 ≤ 0)))] [0, 1] ?_)))))
 refine oe (nt (cC h (fun h22 => ?_) (fun h23 => ?_)))
 · refine qs (qr (oN 1 [(4, vi 0)] [0] ?_))
   refine oe (nt (qe (nr (rt [.int .i64 0] (fun γ w hs => ?_)))))
   rw [← sI h22]
   exact hs.curPost hg () (is := [0]) rfl
 refine qk (nt (qs (qs (qr (oN 2 [(12, vb (decide (x1 ≤ 256)))] [0, 1] ?_)))))
 refine oe (nt (cC h23 (fun h32 => ?_) (fun h33 => ?_)))
 · refine qs (qr (oN 1 [(13, .q p0 0)] [0, 1] ?_))
   obtain ⟨t34, h35, h36⟩ := bS h32
   refine JO_callC rfl (by kernel_rfl) (f := 76) (args := fun γ => #[(SV.q p0 0).den []]) (fun γ => by kernel_rfl) (x0 := CurD.mk xb0 xi0 xh0) (x1 := CurD.mk xb0 t34.2.1 t34.2.2) (Rr := []) rfl hs0 (fun γ w hs => (by have vv := c_spec_l01Byte (p0 := p0) (W := w) h35 (hs0.kept hs.kept); exact vv)) (fun (y37 : Unit) => [(14, vi t34.1), (13, .q p0 0), (0, .q p0 0), (1, vi x1)]) (fun y37 => by kernel_rfl) (fun y37 => ?_)
   refine oN 1 [(15, vi x1)] [14, 0] ?_
   obtain ⟨u40, hz39, h38⟩ := bS h36
   refine JO_div rfl (by kernel_rfl) (op := .rem) (k := .i64) (x := t34.1) (y := x1) (by kernel_rfl) (nz_some hz39) rfl ?_
   refine oN 1 [(4, vi (Int.tmod t34.1 x1))] [0] ?_
   refine oe (nt (qe (nr (rt [.int .i64 (Int.tmod t34.1 x1)] (fun γ w hs => ?_)))))
   rw [← sI h38]
   exact hs.curPost hg () (is := [0]) rfl
 refine qk (nt (qs (qr (oN 1 [(17, .q p0 0)] [0, 1] ?_))))
 obtain ⟨t41, h42, h43⟩ := bS h33
 refine JO_callC rfl (by kernel_rfl) (f := 76) (args := fun γ => #[(SV.q p0 0).den []]) (fun γ => by kernel_rfl) (x0 := CurD.mk xb0 xi0 xh0) (x1 := CurD.mk xb0 t41.2.1 t41.2.2) (Rr := []) rfl hs0 (fun γ w hs => (by have vv := c_spec_l01Byte (p0 := p0) (W := w) h42 (hs0.kept hs.kept); exact vv)) (fun (y44 : Unit) => [(18, vi t41.1), (17, .q p0 0), (0, .q p0 0), (1, vi x1)]) (fun y44 => by kernel_rfl) (fun y44 => ?_)
 refine oN 1 [(5, vi t41.1)] [0, 1] ?_
 refine oe (nt (qs (qr (oN 1 [(19, .q p0 0)] [5, 0, 1] ?_))))
 obtain ⟨t45, h46, h47⟩ := bS h43
 refine JO_callC rfl (by kernel_rfl) (f := 76) (args := fun γ => #[(SV.q p0 0).den []]) (fun γ => by kernel_rfl) (x0 := CurD.mk xb0 t41.2.1 t41.2.2) (x1 := CurD.mk xb0 t45.2.1 t45.2.2) (Rr := []) rfl hs0 (fun γ w hs => (by have vv := c_spec_l01Byte (p0 := p0) (W := w) h46 (hs0.kept hs.kept); exact vv)) (fun (y48 : Unit) => [(20, vi t45.1), (19, .q p0 0), (5, vi t41.1), (0, .q p0 0), (1, vi x1)]) (fun y48 => by kernel_rfl) (fun y48 => ?_)
 refine oN 1 [(6, vi t45.1)] [5, 0, 1] ?_
 refine oe (nt (qs (qr (oN 1 [(21, .q p0 0)] [6, 5, 0, 1] ?_))))
 obtain ⟨t49, h50, h51⟩ := bS h47
 refine JO_callC rfl (by kernel_rfl) (f := 76) (args := fun γ => #[(SV.q p0 0).den []]) (fun γ => by kernel_rfl) (x0 := CurD.mk xb0 t45.2.1 t45.2.2) (x1 := CurD.mk xb0 t49.2.1 t49.2.2) (Rr := []) rfl hs0 (fun γ w hs => (by have vv := c_spec_l01Byte (p0 := p0) (W := w) h50 (hs0.kept hs.kept); exact vv)) (fun (y52 : Unit) => [(22, vi t49.1), (21, .q p0 0), (6, vi t45.1), (5, vi t41.1), (0, .q p0 0), (1, vi x1)]) (fun y52 => by kernel_rfl) (fun y52 => ?_)
 refine oN 1 [(7, vi t49.1)] [6, 5, 0, 1] ?_
 refine oe (nt (qs (qr (oN 1 [(23, .q p0 0)] [7, 6, 5, 0, 1] ?_))))
 obtain ⟨t53, h54, h55⟩ := bS h51
 refine JO_callC rfl (by kernel_rfl) (f := 76) (args := fun γ => #[(SV.q p0 0).den []]) (fun γ => by kernel_rfl) (x0 := CurD.mk xb0 t49.2.1 t49.2.2) (x1 := CurD.mk xb0 t53.2.1 t53.2.2) (Rr := []) rfl hs0 (fun γ w hs => (by have vv := c_spec_l01Byte (p0 := p0) (W := w) h54 (hs0.kept hs.kept); exact vv)) (fun (y56 : Unit) => [(24, vi t53.1), (23, .q p0 0), (7, vi t49.1), (6, vi t45.1), (5, vi t41.1), (0, .q p0 0), (1, vi x1)]) (fun y56 => by kernel_rfl) (fun y56 => ?_)
 refine oN 1 [(8, vi t53.1)] [7, 6, 5, 0, 1] ?_
 refine oe (nt (qs (qr (oN 11 [(35, vi x1), (34, vi (w64 ((w64 ((w64 ((w64 (t41.1 * 16777216)) + (w64 (t45.1 * 65536)))) + (w64 (t49.1 * 256)))) + t53.1)))] [0] ?_))))
 obtain ⟨u59, hz58, h57⟩ := bS h55
 refine JO_div rfl (by kernel_rfl) (op := .rem) (k := .i64) (x := (w64 ((w64 ((w64 ((w64 (t41.1 * 16777216)) + (w64 (t45.1 * 65536)))) + (w64 (t49.1 * 256)))) + t53.1))) (y := x1) (by kernel_rfl) (nz_some hz58) rfl ?_
 refine oN 1 [(4, vi (Int.tmod (w64 ((w64 ((w64 ((w64 (t41.1 * 16777216)) + (w64 (t45.1 * 65536)))) + (w64 (t49.1 * 256)))) + t53.1)) x1))] [0] ?_
 refine oe (nt (qe (rt [.int .i64 (Int.tmod (w64 ((w64 ((w64 ((w64 (t41.1 * 16777216)) + (w64 (t45.1 * 65536)))) + (w64 (t49.1 * 256)))) + t53.1)) x1)] (fun γ w hs => ?_))))
 rw [← sI h57]
 exact hs.curPost hg () (is := [0]) rfl

theorem c_spec_DrawPlaces {W : World} {x0 : List U8} {a0_0 : Option Addr} {c0_0 : Nat} {r : (List Int)} (h : spec_DrawPlaces x0 = some r) (hv0_0 : SlView W x0 a0_0 c0_0) :
    Gives Try.prog 34 #[.slice a0_0 x0.length c0_0] W (fun y : AC => .slice y.1 r.length y.2) (fun y => [SlRes 3 r y.1 y.2]) := by
 unfold spec_DrawPlaces at h
 refine en Try.func34 Try.ntmps34 ?_
 refine qs (qr (oN 1 [] [0] ?_))
 refine oe (nt (qs (qr (oN 1 [(6, .v (.slice a0_0 x0.length c0_0))] [] ?_))))
 obtain ⟨t21, h22, h23⟩ := bS h
 refine JO_callN rfl (by kernel_rfl) (f := 63) (args := #[.slice a0_0 x0.length c0_0]) (by kernel_rfl) (fun γ w hs => (by have vv := c_spec_l01New (W := w) h22 (hv0_0.kept hs.kept); exact vv)) (fun y24 => [(7, .q y24.1 0), (6, .v (.slice a0_0 x0.length c0_0))]) (fun y24 => by kernel_rfl) (fun y24 => ?_)
 refine oN 1 [(3, .q y24.1 0)] [] ?_
 refine oe (nt (qs (qr (ob [] [CurRes 86 (CurD.mk x0 t21.1 t21.2) y24.1 a0_0 c0_0] 3 0 [] ([] : List Int) (own_flat (by kernel_rfl)) (fun y25 => ?_)))))
 refine oN 1 [(4, .v (.slice y25.1 ([] : List Int).length y25.2))] [3] ?_
 refine oe (nt (qs (qs (qr (oN 1 [(5, vi 0)] [4, 3] ?_)))))
 refine oe (nt ?_)
 obtain ⟨r30, hL31, h32⟩ := bS h23
 obtain ⟨k33, hk34, h32⟩ := brkS h32
 refine JC_cutP (τ := ((List Int)) × (AC)) (fun y => k33 y.1 = some r) (fun y38 => [(4, .v (.slice y38.2.1 y38.1.length y38.2.2))]) (fun y38 => []) (fun y38 => [SlRes 3 y38.1 y38.2.1 y38.2.2]) ?_ (fun y38 h39p => ?_)
 · refine qb (lp AC hL31 (fun s27 y28 => [(5, vi s27.1), (4, .v (.slice y28.1 s27.2.1.length y28.2)), (3, .q y24.1 0)]) (fun s27 y28 => []) (fun s27 y28 => [SlRes 3 s27.2.1 y28.1 y28.2, CurRes 86 (CurD.mk x0 s27.2.2.1 s27.2.2.2) y24.1 a0_0 c0_0]) (y25.1, y25.2) [5, 4, 3] [0, 0] 0 (fun s27 y28 t29 h35 hd36 => ?_))
   refine qs (qs (qr (oN 2 [(10, vb (decide (s27.1 < 12)))] [5, 4, 3] ?_)))
   refine oe (nt (cC h35 (fun h41 => ?_) (fun h42 => ?_)))
   · refine qk (nt (qs (qb (qr (oN 2 [(14, .q y24.1 0), (13, .v (.slice y28.1 s27.2.1.length y28.2))] [5, 3] ?_)))))
     refine or_ [1, 0] ?_
     obtain ⟨t43, h44, h45⟩ := bS h41
     refine JO_callC rfl (by kernel_rfl) (f := 64) (args := fun γ => #[(SV.q y24.1 0).den [], .int .i64 10000]) (fun γ => by kernel_rfl) (x0 := CurD.mk x0 s27.2.2.1 s27.2.2.2) (x1 := CurD.mk x0 t43.2.1 t43.2.2) (Rr := [SlRes 3 s27.2.1 y28.1 y28.2]) rfl (Seen.of hv0_0) (fun γ w hs => (by have vv := c_spec_l01Below (p0 := y24.1) (W := w) h44 (hv0_0.kept hs.kept); exact vv)) (fun (y46 : Unit) => [(15, vi t43.1), (14, .q y24.1 0), (13, .v (.slice y28.1 s27.2.1.length y28.2)), (5, vi s27.1), (3, .q y24.1 0)]) (fun y46 => by kernel_rfl) (fun y46 => ?_)
     refine ob [] [CurRes 86 (CurD.mk x0 t43.2.1 t43.2.2) y24.1 a0_0 c0_0, SlRes 3 s27.2.1 y28.1 y28.2] 3 1 [.int .i64 t43.1] ([t43.1] : List Int) (own_flat (by kernel_rfl)) (fun y47 => ?_)
     refine or_ [2, 0, 0] ?_
     obtain ⟨l50, hm51, h52⟩ := bS h45
     refine oa 24 y47.2 Try.t3 (.int .i64 0) (fun γ w hs => ⟨y47.2, (hs.view 1 rfl)⟩) hm51 (fun y49 => ?_)
     refine oN 1 [(4, .v (.slice y49.1 l50.length y49.2))] [5, 3] ?_
     refine oe (bn (nt (qr (oN 3 [(5, vi (w64 (s27.1 + 1)))] [4, 3] ?_))))
     exact oe (ct h52 (y49.1, y49.2) [5, 4, 3] [0, 1] 0)
   refine qx (nx (nx (bh ?_)))
   have h53 := leafB hd36 h42 h32
   exact mp (s27.2.1, (y28.1, y28.2)) h53 [4] [0] 0
 have h39 := (congrFun hk34 _).symm.trans h39p
 refine nt (qs (qr (oN 2 [(2, .v (.slice y38.2.1 y38.1.length y38.2.2))] [] ?_)))
 refine oe (nt (qe (rt [.slice y38.2.1 y38.1.length y38.2.2] (fun γ w hs => ?_))))
 rw [← sI h39]
 exact ⟨y38.2, rfl, hs.kept.toBelow, (hs.takeR (is := [0]) rfl).fresh⟩

theorem c_spec_l01In {W : World} {x0 : Int} {x1 : Int} {x2 : Int} {r : Bool} (h : spec_l01In x0 x1 x2 = some r)  :
    Gives0 Try.prog 62 #[.int .i64 x0, .int .i64 x1, .int .i64 x2] W (.bool r) := by
 unfold spec_l01In at h
 refine en Try.func62 Try.ntmps62 ?_
 refine qs (qr (oN 1 [] [0, 1, 2] ?_))
 refine oe (nt (qs ?_))
 obtain ⟨p21, hE22, h23⟩ := bS h
 refine JC_cut (τ := Unit) (fun _ => [(6, vb p21)]) (fun _ => []) (fun _ => []) ?_ (fun _ => ?_)
 · refine qr (oN 4 [(10, vb (decide (x0 ≥ x1)))] [0, 2] ?_)
   refine oS 10 hE22 (fun h25 => ?_) (fun h26 => ?_)
   · refine oN 5 [(6, vb (decide (x0 ≤ x2)))] [] ?_
     refine oe ?_
     obtain rfl := sI h25
     exact mt () [6] [] 0
   refine oN 5 [(6, vb false)] [] ?_
   refine oe ?_
   obtain rfl := sI h26
   exact mt () [6] [] 0
 refine nt (qe ?_)
 obtain rfl := sI h23
 exact re [.bool p21]

theorem c_spec_BandOf {W : World} {x0 : Int} {x1 : Int} {r : Band × Bool} (h : spec_BandOf x0 x1 = some r)  :
    Gives0 Try.prog 41 #[.int .i64 x0, .int .i64 x1] W (.tuple #[vBand r.1, .bool r.2]) := by
 unfold spec_BandOf at h
 refine en Try.func41 Try.ntmps41 ?_
 refine qs (qr (oB 2 [(4, .p 0 0)] [0, 1] [(54, (eBand (Band.mk 0 0)))] ?_))
 refine oe (nt (qs (qs ?_)))
 obtain ⟨p21, hE22, h23⟩ := bS h
 refine JC_cut (τ := Unit) (fun _ => [(0, vi x0), (1, vi x1), (4, .p 0 0), (14, vb p21)]) (fun _ => [(54, (eBand (Band.mk 0 0)))]) (fun _ => []) ?_ (fun _ => ?_)
 · refine qr (oN 1 [(7, vi x0)] [4, 0, 1] ?_)
   obtain ⟨t24, h25, h26⟩ := bS hE22
   refine k0 (fun γ w hs => c_spec_l01In h25) ?_
   refine oN 2 [(10, vb (!t24))] [4, 0, 1] ?_
   refine oS 10 h26 (fun h29 => ?_) (fun h30 => ?_)
   · refine oN 4 [(14, vb true)] [4, 0, 1] ?_
     refine oe ?_
     obtain rfl := sI h29
     exact mt () [0, 1, 4, 14] [] 1
   refine oN 1 [(11, vi x1)] [10, 4, 0, 1] ?_
   obtain ⟨t31, h32, h33⟩ := bS h30
   refine k0 (fun γ w hs => c_spec_l01In h32) ?_
   refine oN 2 [(14, vb (!t31))] [4, 0, 1] ?_
   refine oe ?_
   obtain rfl := sI h33
   exact mt () [0, 1, 4, 14] [] 1
 refine nt (cC h23 (fun h36 => ?_) (fun h37 => ?_))
 · refine qs (qr (oN 3 [(5, vb false)] [4] ?_))
   refine oe (nt (qe (nr ?_)))
   obtain rfl := sI h36
   exact re [vBand (Band.mk 0 0), .bool false]
 refine qk (nt (qs (qr (oN 3 [(6, vi (w64 (x0 * 1000000000)))] [1, 4] ?_))))
 refine oe (nt (qs ?_))
 obtain ⟨u40, hz39, h38⟩ := bS h37
 obtain ⟨u43, hz42, h41⟩ := bS h38
 refine JC_cut (τ := Unit) (fun _ => [(5, vb true), (4, .p 0 0)]) (fun _ => [(54, (eBand (Band.mk (w64 (Int.tdiv (w64 (x0 * 1000000000)) x1)) (w64 (Int.tdiv (w64 ((w64 ((w64 (x0 * 1000000000)) + x1)) - 1)) x1)))))]) (fun _ => []) ?_ (fun _ => ?_)
 · refine jw [6, 1, 4] [] ?_
   refine JC_heldN (ks := []) (Rk := []) 12 (by kernel_rfl) (by kernel_rfl) ?_
   refine htq 0 (vi (w64 (x0 * 1000000000))) [] ?_
   refine htq 1 (vi x1) [] ?_
   refine ht 2 (vi (w64 (Int.tdiv (w64 (x0 * 1000000000)) x1))) [] (div_held (op := .quo) (k := .i64) (x := (w64 (x0 * 1000000000))) (y := x1) (by kernel_rfl) (nz_some hz39)) ?_
   refine hk [20, 6, 1, 4] ?_
   refine htq 3 (vi (w64 (x0 * 1000000000))) [] ?_
   refine hk [21, 20, 1, 4] ?_
   refine htq 4 (vi x1) [] ?_
   refine htq 5 (vi (w64 ((w64 (x0 * 1000000000)) + x1))) [] ?_
   refine hk [23, 20, 1, 4] ?_
   refine htq 6 (vi (w64 ((w64 ((w64 (x0 * 1000000000)) + x1)) - 1))) [] ?_
   refine hk [24, 20, 1, 4] ?_
   refine htq 7 (vi x1) [] ?_
   refine hk [25, 24, 20, 4] ?_
   refine ht 8 (vi (w64 (Int.tdiv (w64 ((w64 ((w64 (x0 * 1000000000)) + x1)) - 1)) x1))) [] (div_held (op := .quo) (k := .i64) (x := (w64 ((w64 ((w64 (x0 * 1000000000)) + x1)) - 1))) (y := x1) (by kernel_rfl) (nz_some hz42)) ?_
   refine hk [26, 20, 4] ?_
   refine htq 9 (.v (vBand (Band.mk (w64 (Int.tdiv (w64 (x0 * 1000000000)) x1)) (w64 (Int.tdiv (w64 ((w64 ((w64 (x0 * 1000000000)) + x1)) - 1)) x1))))) [] ?_
   refine hk [27, 4] ?_
   refine ha1 10 ?_
   refine hi (fun γ0 δ hm => ?_)
   refine gs [(27, .v (vBand (Band.mk (w64 (Int.tdiv (w64 (x0 * 1000000000)) x1)) (w64 (Int.tdiv (w64 ((w64 ((w64 (x0 * 1000000000)) + x1)) - 1)) x1))))), (4, .p 0 0)] [(54, (eBand (Band.mk (w64 (Int.tdiv (w64 (x0 * 1000000000)) x1)) (w64 (Int.tdiv (w64 ((w64 ((w64 (x0 * 1000000000)) + x1)) - 1)) x1)))))] (fun δ2 => ?_)
   refine gd hm [4] [] ?_
   refine htq 11 (vb true) [] ?_
   exact hd () [5, 4] [] 1
 refine nt (qe ?_)
 obtain rfl := sI h41
 exact re [vBand (Band.mk (w64 (Int.tdiv (w64 (x0 * 1000000000)) x1)) (w64 (Int.tdiv (w64 ((w64 ((w64 (x0 * 1000000000)) + x1)) - 1)) x1))), .bool true]

theorem c_spec_BandOk {W : World} {x0 : Band} {r : Bool} (h : spec_BandOk x0 = some r)  :
    Gives0 Try.prog 67 #[vBand x0] W (.bool r) := by
 unfold spec_BandOk at h
 refine en Try.func67 Try.ntmps67 ?_
 refine qs (qr (oB 2 [(1, .p 0 0)] [] [(54, (eBand x0))] ?_))
 refine oe (nt (qs ?_))
 obtain ⟨p21, hE22, h23⟩ := bS h
 refine JC_cut (τ := Unit) (fun _ => [(2, vb p21)]) (fun _ => [(54, (eBand x0))]) (fun _ => []) ?_ (fun _ => ?_)
 · refine qr (oN 4 [(6, vb (decide (x0.Low ≥ 0)))] [1] ?_)
   refine oS 6 hE22 (fun h25 => ?_) (fun h26 => ?_)
   · refine oN 7 [(13, vb (decide (x0.Low ≤ x0.High)))] [1] ?_
     refine oS 13 h25 (fun h28 => ?_) (fun h29 => ?_)
     · refine oN 5 [(2, vb (decide (x0.High ≤ 1000000000000000)))] [] ?_
       refine oe ?_
       obtain rfl := sI h28
       exact mt () [2] [] 1
     refine oN 5 [(2, vb false)] [] ?_
     refine oe ?_
     obtain rfl := sI h29
     exact mt () [2] [] 1
   refine oN 12 [(2, vb false)] [] ?_
   refine oe ?_
   obtain rfl := sI h26
   exact mt () [2] [] 1
 refine nt (qe ?_)
 obtain rfl := sI h23
 exact re [.bool p21]

theorem c_spec_ReserveFor {W : World} {x0 : Int} {x1 : Band} {r : Int × Bool} (h : spec_ReserveFor x0 x1 = some r)  :
    Gives0 Try.prog 42 #[.int .i64 x0, vBand x1] W (.tuple #[.int .i64 r.1, .bool r.2]) := by
 unfold spec_ReserveFor at h
 refine en Try.func42 Try.ntmps42 ?_
 refine qs (qr (oB 3 [(3, .p 0 0)] [0] [(54, (eBand x1))] ?_))
 refine oe (nt (qs (qs ?_)))
 obtain ⟨p21, hE22, h23⟩ := bS h
 refine JC_cut (τ := Unit) (fun _ => [(0, vi x0), (3, .p 0 0), (20, vb p21)]) (fun _ => [(54, (eBand x1))]) (fun _ => []) ?_ (fun _ => ?_)
 · refine qr (oN 1 [(8, .v (vBand x1))] [3, 0] ?_)
   obtain ⟨t24, h25, h26⟩ := bS hE22
   refine k0 (fun γ w hs => c_spec_BandOk h25) ?_
   refine oN 2 [(11, vb (!t24))] [3, 0] ?_
   refine oS 11 h26 (fun h29 => ?_) (fun h30 => ?_)
   · refine oN 9 [(20, vb true)] [3, 0] ?_
     refine oe ?_
     obtain rfl := sI h29
     exact mt () [0, 3, 20] [] 1
   refine oN 5 [(16, vb (decide (x1.High > 1000000000000)))] [3, 0] ?_
   refine oS 16 h30 (fun h32 => ?_) (fun h33 => ?_)
   · refine oN 4 [(20, vb true)] [3, 0] ?_
     refine oe ?_
     obtain rfl := sI h32
     exact mt () [0, 3, 20] [] 1
   refine oN 1 [(17, vi x0)] [16, 3, 0] ?_
   obtain ⟨t34, h35, h36⟩ := bS h33
   refine k0 (fun γ w hs => c_spec_l01In h35) ?_
   refine oN 2 [(20, vb (!t34))] [3, 0] ?_
   refine oe ?_
   obtain rfl := sI h36
   exact mt () [0, 3, 20] [] 1
 refine nt (cC h23 (fun h39 => ?_) (fun h40 => ?_))
 · refine qs (qr (oN 2 [(5, vb false), (4, vi 0)] [] ?_))
   refine oe (nt (qe (nr ?_)))
   obtain rfl := sI h39
   exact re [.int .i64 0, .bool false]
 refine qk (nt (qs (qr (oN 5 [(6, vi (w64 (x0 * x1.High)))] [] ?_))))
 refine oe (nt (qs (qr (oN 3 [(7, vi (w64 (Int.tdiv (w64 (x0 * x1.High)) 1000000000)))] [6] ?_))))
 refine oe (nt (qs (qs (qr (oN 3 [(29, vb ((Int.tmod (w64 (x0 * x1.High)) 1000000000) != 0))] [7] ?_)))))
 refine oe (nt ?_)
 obtain ⟨k44, hk45, h47⟩ := jS h40
 refine JC_cutP (τ := (Int) × (Unit)) (fun y => k44 y.1 = some r) (fun y43 => [(7, vi y43.1)]) (fun y43 => [(54, (eBand x1))]) (fun y43 => []) ?_ (fun y43 h46p => ?_)
 · refine cC h47 (fun h49 => ?_) (fun h50 => ?_)
   · refine qr (oN 3 [(7, vi (w64 ((w64 (Int.tdiv (w64 (x0 * x1.High)) 1000000000)) + 1)))] [] ?_)
     exact oe (mp (w64 ((w64 (Int.tdiv (w64 (x0 * x1.High)) 1000000000)) + 1), ()) h49 [7] [] 1)
   exact qk (mp (w64 (Int.tdiv (w64 (x0 * x1.High)) 1000000000), ()) h50 [7] [] 1)
 have h46 := (congrFun hk45 _).symm.trans h46p
 refine nt (qs (qr (oN 3 [(5, vb true), (4, vi y43.1)] [] ?_)))
 refine oe (nt (qe ?_))
 obtain rfl := sI h46
 exact re [.int .i64 y43.1, .bool true]

theorem c_impl_BandOk {W : World} {x0 : Band} {r : Bool} (h : impl_BandOk x0 = some r)  :
    Gives0 Try.prog 77 #[vBand x0] W (.bool r) := by
 unfold impl_BandOk at h
 refine en Try.func77 Try.ntmps77 ?_
 refine qs (qr (oB 2 [(1, .p 0 0)] [] [(54, (eBand x0))] ?_))
 refine oe (nt (qs ?_))
 obtain ⟨p21, hE22, h23⟩ := bS h
 refine JC_cut (τ := Unit) (fun _ => [(2, vb p21)]) (fun _ => [(54, (eBand x0))]) (fun _ => []) ?_ (fun _ => ?_)
 · refine qr (oN 4 [(6, vb (decide (0 ≤ x0.Low)))] [1] ?_)
   refine oS 6 hE22 (fun h25 => ?_) (fun h26 => ?_)
   · refine oN 7 [(13, vb (decide (x0.Low ≤ x0.High)))] [1] ?_
     refine oS 13 h25 (fun h28 => ?_) (fun h29 => ?_)
     · refine oN 5 [(2, vb (decide (x0.High ≤ 1000000000000000)))] [] ?_
       refine oe ?_
       obtain rfl := sI h28
       exact mt () [2] [] 1
     refine oN 5 [(2, vb false)] [] ?_
     refine oe ?_
     obtain rfl := sI h29
     exact mt () [2] [] 1
   refine oN 12 [(2, vb false)] [] ?_
   refine oe ?_
   obtain rfl := sI h26
   exact mt () [2] [] 1
 refine nt (qe ?_)
 obtain rfl := sI h23
 exact re [.bool p21]

theorem c_impl_within {W : World} {x0 : Int} {x1 : Int} {x2 : Int} {r : Bool} (h : impl_within x0 x1 x2 = some r)  :
    Gives0 Try.prog 58 #[.int .i64 x0, .int .i64 x1, .int .i64 x2] W (.bool r) := by
 unfold impl_within at h
 refine en Try.func58 Try.ntmps58 ?_
 refine qs (qr (oN 1 [] [0, 1, 2] ?_))
 refine oe (nt (qs ?_))
 obtain ⟨p21, hE22, h23⟩ := bS h
 refine JC_cut (τ := Unit) (fun _ => [(6, vb p21)]) (fun _ => []) (fun _ => []) ?_ (fun _ => ?_)
 · refine qr (oN 4 [(10, vb (decide (x1 ≤ x0)))] [0, 2] ?_)
   refine oS 10 hE22 (fun h25 => ?_) (fun h26 => ?_)
   · refine oN 5 [(6, vb (decide (x0 ≤ x2)))] [] ?_
     refine oe ?_
     obtain rfl := sI h25
     exact mt () [6] [] 0
   refine oN 5 [(6, vb false)] [] ?_
   refine oe ?_
   obtain rfl := sI h26
   exact mt () [6] [] 0
 refine nt (qe ?_)
 obtain rfl := sI h23
 exact re [.bool p21]

theorem c_impl_ceilDiv {W : World} {x0 : Int} {x1 : Int} {r : Int} (h : impl_ceilDiv x0 x1 = some r)  :
    Gives0 Try.prog 65 #[.int .i64 x0, .int .i64 x1] W (.int .i64 r) := by
 unfold impl_ceilDiv at h
 refine en Try.func65 Try.ntmps65 ?_
 refine qs (qr (oN 1 [] [0, 1] ?_))
 refine oe (nt (qs (qr (oN 5 [(9, vi x1), (8, vi (w64 ((w64 (x0 + x1)) - 1)))] [] ?_))))
 obtain ⟨u23, hz22, h21⟩ := bS h
 refine JO_div rfl (by kernel_rfl) (op := .quo) (k := .i64) (x := (w64 ((w64 (x0 + x1)) - 1))) (y := x1) (by kernel_rfl) (nz_some hz22) rfl ?_
 refine oN 1 [(4, vi (w64 (Int.tdiv (w64 ((w64 (x0 + x1)) - 1)) x1)))] [] ?_
 refine oe (nt (qe ?_))
 obtain rfl := sI h21
 exact re [.int .i64 (w64 (Int.tdiv (w64 ((w64 (x0 + x1)) - 1)) x1))]

theorem c_impl_ReserveFor {W : World} {x0 : Int} {x1 : Band} {r : Int × Bool} (h : impl_ReserveFor x0 x1 = some r)  :
    Gives0 Try.prog 68 #[.int .i64 x0, vBand x1] W (.tuple #[.int .i64 r.1, .bool r.2]) := by
 unfold impl_ReserveFor at h
 refine en Try.func68 Try.ntmps68 ?_
 refine qs (qr (oB 3 [(3, .p 0 0)] [0] [(54, (eBand x1))] ?_))
 refine oe (nt (qs (qs ?_)))
 obtain ⟨p21, hE22, h23⟩ := bS h
 refine JC_cut (τ := Unit) (fun _ => [(0, vi x0), (3, .p 0 0), (18, vb p21)]) (fun _ => [(54, (eBand x1))]) (fun _ => []) ?_ (fun _ => ?_)
 · refine qr (oN 1 [(6, .v (vBand x1))] [3, 0] ?_)
   obtain ⟨t24, h25, h26⟩ := bS hE22
   refine k0 (fun γ w hs => c_impl_BandOk h25) ?_
   refine oN 2 [(9, vb (!t24))] [3, 0] ?_
   refine oS 9 h26 (fun h29 => ?_) (fun h30 => ?_)
   · refine oN 9 [(18, vb true)] [3, 0] ?_
     refine oe ?_
     obtain rfl := sI h29
     exact mt () [0, 3, 18] [] 1
   refine oN 5 [(14, vb (decide (x1.High > 1000000000000)))] [3, 0] ?_
   refine oS 14 h30 (fun h32 => ?_) (fun h33 => ?_)
   · refine oN 4 [(18, vb true)] [3, 0] ?_
     refine oe ?_
     obtain rfl := sI h32
     exact mt () [0, 3, 18] [] 1
   refine oN 1 [(15, vi x0)] [14, 3, 0] ?_
   obtain ⟨t34, h35, h36⟩ := bS h33
   refine k0 (fun γ w hs => c_impl_within h35) ?_
   refine oN 2 [(18, vb (!t34))] [3, 0] ?_
   refine oe ?_
   obtain rfl := sI h36
   exact mt () [0, 3, 18] [] 1
 refine nt (cC h23 (fun h39 => ?_) (fun h40 => ?_))
 · refine qs (qr (oN 2 [(5, vb false), (4, vi 0)] [] ?_))
   refine oe (nt (qe (nr ?_)))
   obtain rfl := sI h39
   exact re [.int .i64 0, .bool false]
 refine qk (nt (qs (qr (oN 4 [(22, vi (w64 (x0 * x1.High)))] [] ?_))))
 obtain ⟨t41, h42, h43⟩ := bS h40
 refine k0 (fun γ w hs => c_impl_ceilDiv h42) ?_
 refine oN 2 [(5, vb true), (4, vi t41)] [] ?_
 refine oe (nt (qe ?_))
 obtain rfl := sI h43
 exact re [.int .i64 t41, .bool true]

theorem c_impl_LiabilityOf {W : World} {x0 : List Int} {a0_0 : Option Addr} {c0_0 : Nat} {x1 : List Band} {a1_0 : Option Addr} {c1_0 : Nat} {r : Int × Bool} (h : impl_LiabilityOf x0 x1 = some r) (hv0_0 : SlView W x0 a0_0 c0_0) (hv1_0 : SlView W x1 a1_0 c1_0) :
    Gives0 Try.prog 43 #[.slice a0_0 x0.length c0_0, .slice a1_0 x1.length c1_0] W (.tuple #[.int .i64 r.1, .bool r.2]) := by
 unfold impl_LiabilityOf at h
 refine en Try.func43 Try.ntmps43 ?_
 refine qs (qr (oN 2 [] [0, 1] ?_))
 refine oe (nt (qs (qs ?_)))
 obtain ⟨p21, hE22, h23⟩ := bS h
 refine JC_cut (τ := Unit) (fun _ => [(0, .v (.slice a0_0 x0.length c0_0)), (1, .v (.slice a1_0 x1.length c1_0)), (20, vb p21)]) (fun _ => []) (fun _ => []) ?_ (fun _ => ?_)
 · refine qr (oN 6 [(16, vb ((x0.length : Int) != (x1.length : Int)))] [0, 1] ?_)
   refine oS 16 hE22 (fun h25 => ?_) (fun h26 => ?_)
   · refine oN 4 [(20, vb true)] [0, 1] ?_
     refine oe ?_
     obtain rfl := sI h25
     exact mt () [0, 1, 20] [] 0
   refine oN 4 [(20, vb (decide ((x0.length : Int) > 100)))] [0, 1] ?_
   refine oe ?_
   obtain rfl := sI h26
   exact mt () [0, 1, 20] [] 0
 refine nt (cC h23 (fun h28 => ?_) (fun h29 => ?_))
 · refine qs (qr (oN 2 [(5, vb false), (4, vi 0)] [] ?_))
   refine oe (nt (qe (nr ?_)))
   obtain rfl := sI h28
   exact re [.int .i64 0, .bool false]
 refine qk (nt (qs (qr (oN 1 [(6, vi 0)] [0, 1] ?_))))
 refine oe (nt (qs (qs (qr (oN 3 [(23, vi 0), (22, vi (x0.length : Int)), (21, .v (.slice a0_0 x0.length c0_0))] [6, 1] ?_)))))
 refine oe (nt ?_)
 obtain ⟨r33, hL34, h35⟩ := bS h29
 obtain ⟨k36, hk37, h35⟩ := brkS h35
 refine JC_cutP (τ := (Int) × (Unit)) (fun y => k36 y.1 = some r) (fun y41 => [(6, vi y41.1)]) (fun y41 => []) (fun y41 => []) ?_ (fun y41 h42p => ?_)
 · refine qb (lp Unit hL34 (fun s30 y31 => [(23, vi s30.1), (22, vi (x0.length : Int)), (21, .v (.slice a0_0 x0.length c0_0)), (6, vi s30.2), (1, .v (.slice a1_0 x1.length c1_0))]) (fun s30 y31 => []) (fun s30 y31 => []) () [23, 22, 21, 6, 1] [] 0 (fun s30 y31 t32 h38 hd39 => ?_))
   refine qs (qr (oN 1 [(24, vb (decide (s30.1 < (x0.length : Int))))] [23, 22, 21, 6, 1] ?_))
   refine oe (nt (qs (cC h38 (fun h44 => ?_) (fun h45 => ?_))))
   · refine qk (nt (qs (qb (qs (qr (oN 1 [(25, vi s30.1)] [23, 22, 21, 6, 1] ?_))))))
     obtain ⟨x46, hx47, h48⟩ := bS h44
     refine oi 1 (fun γ w hs => (hv0_0.kept hs.kept)) hx47 ?_
     refine ol 3 0 (.int .i64 x46) (fun γ w hs => (hv0_0.kept hs.kept).flatq hx47) ?_
     refine oN 2 [(8, vi x46), (7, vi s30.1)] [23, 22, 21, 6, 1] ?_
     refine oe (nt (qs (qr (oN 3 [(31, vi s30.1), (30, .v (.slice a1_0 x1.length c1_0)), (29, vi x46)] [23, 22, 21, 6, 1] ?_))))
     obtain ⟨x49, hx50, h51⟩ := bS h48
     refine oi 2 (fun γ w hs => (hv1_0.kept hs.kept)) hx50 ?_
     refine ol 54 0 (vBand x49) (fun γ w hs => (hv1_0.kept hs.kept).flatq hx50) ?_
     obtain ⟨t52, h53, h54⟩ := bS h51
     refine k0 (fun γ w hs => c_impl_ReserveFor h53) ?_
     refine oN 5 [(10, vb t52.2), (9, vi t52.1)] [23, 22, 21, 6, 1] ?_
     refine oe (nt (qs (qs (qr (oN 2 [(38, vb (!t52.2))] [9, 23, 22, 21, 6, 1] ?_)))))
     refine oe (nt (cC h54 (fun h57 => ?_) (fun h58 => ?_)))
     · refine qs (qr (oN 2 [(5, vb false), (4, vi 0)] [] ?_))
       refine oe (nt (qe (nr (br (nr (nr ?_))))))
       have h59 := leafR hd39 h57 h35
       refine br (nr (nr ?_))
       obtain rfl := sI h59
       exact re [.int .i64 0, .bool false]
     refine qk (nt (qr (oN 4 [(6, vi (w64 (s30.2 + t52.1)))] [23, 22, 21, 1] ?_)))
     refine oe (bn (nt (qr (oN 2 [(23, vi (w64 (s30.1 + 1)))] [6, 22, 21, 1] ?_))))
     exact oe (ct h58 () [23, 22, 21, 6, 1] [] 0)
   refine qx (nx (nx (bh ?_)))
   have h60 := leafB hd39 h45 h35
   exact mp (s30.2, ()) h60 [6] [] 0
 have h42 := (congrFun hk37 _).symm.trans h42p
 refine nt (qs (qr (oN 3 [(5, vb true), (4, vi y41.1)] [] ?_)))
 refine oe (nt (qe ?_))
 obtain rfl := sI h42
 exact re [.int .i64 y41.1, .bool true]

theorem c_laws_FnLiabilities {W : World} {x0 : List U8} {a0_0 : Option Addr} {c0_0 : Nat} {r : Bool} (h : laws_FnLiabilities x0 = some r) (hv0_0 : SlView W x0 a0_0 c0_0) :
    Gives0 Try.prog 9 #[.slice a0_0 x0.length c0_0] W (.bool r) := by
 unfold laws_FnLiabilities at h
 refine en Try.func9 Try.ntmps9 ?_
 refine qs (qr (oN 1 [] [0] ?_))
 refine oe (nt (qs (qs (qr (oN 1 [(17, .v (.slice a0_0 x0.length c0_0))] [0] ?_)))))
 obtain ⟨t21, h22, h23⟩ := bS h
 refine k0 (fun γ w hs => c_laws_big h22 (hv0_0.kept hs.kept)) ?_
 refine oe (nt (cC h23 (fun h26 => ?_) (fun h27 => ?_)))
 · refine qs (qr (oN 1 [(2, vb true)] [] ?_))
   refine oe (nt (qe (nr ?_)))
   obtain rfl := sI h26
   exact re [.bool true]
 refine qk (nt (qs (qr (oN 1 [(19, .v (.slice a0_0 x0.length c0_0))] [] ?_))))
 obtain ⟨t28, h29, h30⟩ := bS h27
 refine k1 (fun γ w hs => c_spec_DrawPlaces h29 (hv0_0.kept hs.kept)) (fun y31 => ?_)
 refine oN 1 [(3, .v (.slice y31.1 t28.length y31.2))] [] ?_
 refine oe (nt (qs (qr (oN 1 [(21, .v (.slice y31.1 t28.length y31.2))] [3] ?_))))
 obtain ⟨x32, hx33, h34⟩ := bS h30
 refine oi 1 (fun γ w hs => (hs.view 0 rfl)) hx33 ?_
 refine ol 3 0 (.int .i64 x32) (fun γ w hs => (hs.view 0 rfl).flatq hx33) ?_
 refine oN 2 [(4, vi (Int.tmod x32 6))] [3] ?_
 refine oe (nt (qs (qr (ob [] [SlRes 3 t28 y31.1 y31.2] 3 0 [] ([] : List Int) (own_flat (by kernel_rfl)) (fun y35 => ?_)))))
 refine oN 1 [(5, .v (.slice y35.1 ([] : List Int).length y35.2))] [4, 3] ?_
 refine oe (nt (qs (qr (ob [] [SlRes 3 ([] : List Int) y35.1 y35.2, SlRes 3 t28 y31.1 y31.2] 54 0 [] ([] : List Band) (own_flat (by kernel_rfl)) (fun y37 => ?_)))))
 refine oN 1 [(6, .v (.slice y37.1 ([] : List Band).length y37.2))] [5, 4, 3] ?_
 refine oe (nt (qs (qr (oN 1 [(7, vi 0)] [6, 5, 4, 3] ?_))))
 refine oe (nt (qs (qs (qr (oN 1 [(8, vi 0)] [7, 6, 5, 4, 3] ?_)))))
 refine oe (nt ?_)
 obtain ⟨r42, hL43, h44⟩ := bS h34
 obtain ⟨k45, hk46, h44⟩ := brkS h44
 refine JC_cutP (τ := (Int × (List Band) × (List Int)) × (AC × AC)) (fun y => k45 y.1 = some r) (fun y50 => [(7, vi y50.1.1), (6, .v (.slice y50.2.1.1 y50.1.2.1.length y50.2.1.2)), (5, .v (.slice y50.2.2.1 y50.1.2.2.length y50.2.2.2))]) (fun y50 => []) (fun y50 => [SlRes 54 y50.1.2.1 y50.2.1.1 y50.2.1.2, SlRes 3 y50.1.2.2 y50.2.2.1 y50.2.2.2]) ?_ (fun y50 h51p => ?_)
 · refine qb (lp (AC × AC) hL43 (fun s39 y40 => [(8, vi s39.1), (7, vi s39.2.1), (6, .v (.slice y40.1.1 s39.2.2.1.length y40.1.2)), (5, .v (.slice y40.2.1 s39.2.2.2.length y40.2.2)), (4, vi (Int.tmod x32 6)), (3, .v (.slice y31.1 t28.length y31.2))]) (fun s39 y40 => []) (fun s39 y40 => [SlRes 54 s39.2.2.1 y40.1.1 y40.1.2, SlRes 3 s39.2.2.2 y40.2.1 y40.2.2, SlRes 3 t28 y31.1 y31.2]) ((y37.1, y37.2), (y35.1, y35.2)) [8, 7, 6, 5, 4, 3] [0, 0, 0] 0 (fun s39 y40 t41 h47 hd48 => ?_))
   refine qs (qs (qr (oN 3 [(29, vb (decide (s39.1 < (Int.tmod x32 6))))] [8, 7, 6, 5, 4, 3] ?_)))
   refine oe (nt (cC h47 (fun h76 => ?_) (fun h77 => ?_)))
   · refine qk (nt (qs (qb (qs ?_))))
     obtain ⟨x78, hx79, h80⟩ := bS h76
     obtain ⟨x81, hx82, h83⟩ := bS h80
     obtain ⟨t84, h85, h86⟩ := bS h83
     refine JC_cut (τ := Unit) (fun _ => [(9, .p 0 0), (8, vi s39.1), (7, vi s39.2.1), (6, .v (.slice y40.1.1 s39.2.2.1.length y40.1.2)), (5, .v (.slice y40.2.1 s39.2.2.2.length y40.2.2)), (4, vi (Int.tmod x32 6)), (3, .v (.slice y31.1 t28.length y31.2))]) (fun _ => [(54, (eBand t84.1))]) (fun _ => [SlRes 54 s39.2.2.1 y40.1.1 y40.1.2, SlRes 3 s39.2.2.2 y40.2.1 y40.2.2, SlRes 3 t28 y31.1 y31.2]) ?_ (fun _ => ?_)
     · refine jw [8, 7, 6, 5, 4, 3] [0, 0, 0] ?_
       refine JC_heldN (ks := []) (Rk := [SlRes 54 s39.2.2.1 y40.1.1 y40.1.2, SlRes 3 s39.2.2.2 y40.2.1 y40.2.2, SlRes 3 t28 y31.1 y31.2]) 21 (by kernel_rfl) (by kernel_rfl) ?_
       refine htq 0 (.v (.slice y31.1 t28.length y31.2)) [0, 0, 0] ?_
       refine htq 1 (vi s39.1) [0, 0, 0] ?_
       refine htq 2 (vi (w64 (1 + s39.1))) [0, 0, 0] ?_
       refine hk [35, 33, 8, 7, 6, 5, 4, 3] ?_
       refine ht 3 (.q y31.1 (Int.toNat (w64 (1 + s39.1)) * 1)) [0, 0, 0] (index_held (d := y31.1) (m := t28.length) (j := (w64 (1 + s39.1))) (s := 1) (by kernel_rfl) (fun γ0 w hs => (hs.view 2 rfl)) rfl hx79) ?_
       refine hk [36, 8, 7, 6, 5, 4, 3] ?_
       refine ht 4 (vi x78) [0, 0, 0] (loadq_held (t := 3) (d := y31.1) (Int.toNat (w64 (1 + s39.1)) * 1) 0 (by kernel_rfl) (cs := [.int .i64 x78]) (v := .int .i64 x78) (fun γ0 w hs => (hs.view 2 rfl).flatq hx79) (by kernel_rfl)) ?_
       refine hk [37, 8, 7, 6, 5, 4, 3] ?_
       refine htq 5 (vi (Int.tmod x78 300)) [0, 0, 0] ?_
       refine hk [38, 8, 7, 6, 5, 4, 3] ?_
       refine htq 6 (vi (w64 (1 + (Int.tmod x78 300)))) [0, 0, 0] ?_
       refine hk [39, 8, 7, 6, 5, 4, 3] ?_
       refine htq 7 (.v (.slice y31.1 t28.length y31.2)) [0, 0, 0] ?_
       refine htq 8 (vi s39.1) [0, 0, 0] ?_
       refine htq 9 (vi (w64 (2 + s39.1))) [0, 0, 0] ?_
       refine hk [42, 40, 39, 8, 7, 6, 5, 4, 3] ?_
       refine ht 10 (.q y31.1 (Int.toNat (w64 (2 + s39.1)) * 1)) [0, 0, 0] (index_held (d := y31.1) (m := t28.length) (j := (w64 (2 + s39.1))) (s := 1) (by kernel_rfl) (fun γ0 w hs => (hs.view 2 rfl)) rfl hx82) ?_
       refine hk [43, 39, 8, 7, 6, 5, 4, 3] ?_
       refine ht 11 (vi x81) [0, 0, 0] (loadq_held (t := 3) (d := y31.1) (Int.toNat (w64 (2 + s39.1)) * 1) 0 (by kernel_rfl) (cs := [.int .i64 x81]) (v := .int .i64 x81) (fun γ0 w hs => (hs.view 2 rfl).flatq hx82) (by kernel_rfl)) ?_
       refine hk [44, 39, 8, 7, 6, 5, 4, 3] ?_
       refine htq 12 (vi (Int.tmod x81 20)) [0, 0, 0] ?_
       refine hk [45, 39, 8, 7, 6, 5, 4, 3] ?_
       refine htq 13 (vi (w64 (1 + (Int.tmod x81 20)))) [0, 0, 0] ?_
       refine hk [46, 39, 8, 7, 6, 5, 4, 3] ?_
       refine ha2 14 18 ?_ ?_
       · refine hi (fun γ0 δ hm => ?_)
         refine g0 (fun w hs => c_spec_BandOf h85) ?_
         refine gn hm [47, 8, 7, 6, 5, 4, 3] [0, 0, 0] ?_
         refine htq 15 (.v (.tuple #[vBand t84.1, .bool t84.2])) [0, 0, 0] ?_
         refine hk [32, 8, 7, 6, 5, 4, 3] ?_
         refine htq 16 (.v (vBand t84.1)) [0, 0, 0] ?_
         refine htq 17 (vb t84.2) [0, 0, 0] ?_
         refine hk [49, 48, 8, 7, 6, 5, 4, 3] ?_
         refine ha1 18 ?_
         refine hi (fun γ0 δ hm => ?_)
         refine gs [(9, .p 0 0), (49, vb t84.2), (48, .v (vBand t84.1)), (8, vi s39.1), (7, vi s39.2.1), (6, .v (.slice y40.1.1 s39.2.2.1.length y40.1.2)), (5, .v (.slice y40.2.1 s39.2.2.2.length y40.2.2)), (4, vi (Int.tmod x32 6)), (3, .v (.slice y31.1 t28.length y31.2))] [(54, (eBand (Band.mk 0 0)))] (fun δ2 => ?_)
         refine gd hm [9, 49, 48, 8, 7, 6, 5, 4, 3] [0, 0, 0] ?_
         refine ha1 19 ?_
         refine hi (fun γ0 δ hm => ?_)
         refine gs [(9, .p 0 0), (49, vb t84.2), (48, .v (vBand t84.1)), (8, vi s39.1), (7, vi s39.2.1), (6, .v (.slice y40.1.1 s39.2.2.1.length y40.1.2)), (5, .v (.slice y40.2.1 s39.2.2.2.length y40.2.2)), (4, vi (Int.tmod x32 6)), (3, .v (.slice y31.1 t28.length y31.2))] [(54, (eBand t84.1))] (fun δ2 => ?_)
         refine gd hm [9, 49, 8, 7, 6, 5, 4, 3] [0, 0, 0] ?_
         refine htq 20 (vb t84.2) [0, 0, 0] ?_
         refine hk [9, 8, 7, 6, 5, 4, 3] ?_
         exact hd () [9, 8, 7, 6, 5, 4, 3] [0, 0, 0] 1
       · refine hi (fun γ0 δ hm => ?_)
         refine gs [(9, .p 0 0), (46, vi (w64 (1 + (Int.tmod x81 20)))), (39, vi (w64 (1 + (Int.tmod x78 300)))), (8, vi s39.1), (7, vi s39.2.1), (6, .v (.slice y40.1.1 s39.2.2.1.length y40.1.2)), (5, .v (.slice y40.2.1 s39.2.2.2.length y40.2.2)), (4, vi (Int.tmod x32 6)), (3, .v (.slice y31.1 t28.length y31.2))] [(54, (eBand (Band.mk 0 0)))] (fun δ2 => ?_)
         refine gd hm [9, 46, 39, 8, 7, 6, 5, 4, 3] [0, 0, 0] ?_
         refine ha1 14 ?_
         refine hi (fun γ0 δ hm => ?_)
         refine g0 (fun w hs => c_spec_BandOf h85) ?_
         refine gn hm [47, 9, 8, 7, 6, 5, 4, 3] [0, 0, 0] ?_
         refine htq 15 (.v (.tuple #[vBand t84.1, .bool t84.2])) [0, 0, 0] ?_
         refine hk [32, 9, 8, 7, 6, 5, 4, 3] ?_
         refine htq 16 (.v (vBand t84.1)) [0, 0, 0] ?_
         refine htq 17 (vb t84.2) [0, 0, 0] ?_
         refine hk [49, 48, 9, 8, 7, 6, 5, 4, 3] ?_
         refine ha1 19 ?_
         refine hi (fun γ0 δ hm => ?_)
         refine gs [(49, vb t84.2), (48, .v (vBand t84.1)), (9, .p 0 0), (8, vi s39.1), (7, vi s39.2.1), (6, .v (.slice y40.1.1 s39.2.2.1.length y40.1.2)), (5, .v (.slice y40.2.1 s39.2.2.2.length y40.2.2)), (4, vi (Int.tmod x32 6)), (3, .v (.slice y31.1 t28.length y31.2))] [(54, (eBand t84.1))] (fun δ2 => ?_)
         refine gd hm [49, 9, 8, 7, 6, 5, 4, 3] [0, 0, 0] ?_
         refine htq 20 (vb t84.2) [0, 0, 0] ?_
         refine hk [9, 8, 7, 6, 5, 4, 3] ?_
         exact hd () [9, 8, 7, 6, 5, 4, 3] [0, 0, 0] 1
     refine nt (qs (JC_quiet (by kernel_rfl) (by kernel_rfl) ?_))
     refine qN 3 [(53, vi (w64 (3 + s39.1))), (51, .v (.slice y31.1 t28.length y31.2))] [9, 8, 7, 6, 5, 4, 3] ?_
     obtain ⟨x89, hx90, h91⟩ := bS h86
     refine qi 1 (fun γ w hs => (hs.view 2 rfl)) hx90 ?_
     refine ql 3 0 (.int .i64 x89) (fun γ w hs => (hs.view 2 rfl).flatq hx90) ?_
     refine qN 1 [(56, .v (vBand t84.1))] [55, 9, 8, 7, 6, 5, 4, 3] ?_
     obtain ⟨t92, h93, h94⟩ := bS h91
     refine q0 (fun γ w hs => c_spec_ReserveFor h93) ?_
     refine qN 5 [(11, vi t92.1)] [9, 8, 7, 6, 5, 4, 3] ?_
     refine qz (nt (qs (qr (oN 4 [(63, vi (w64 (3 + s39.1))), (61, .v (.slice y31.1 t28.length y31.2)), (60, .v (.slice y40.2.1 s39.2.2.2.length y40.2.2))] [11, 9, 8, 7, 6, 4, 3] ?_))))
     obtain ⟨x96, hx97, h98⟩ := bS h94
     refine oi 1 (fun γ w hs => (hs.view 2 rfl)) hx97 ?_
     refine ol 3 0 (.int .i64 x96) (fun γ w hs => (hs.view 2 rfl).flatq hx97) ?_
     refine ob [] [SlRes 54 s39.2.2.1 y40.1.1 y40.1.2, SlRes 3 s39.2.2.2 y40.2.1 y40.2.2, SlRes 3 t28 y31.1 y31.2] 3 1 [.int .i64 x96] ([x96] : List Int) (own_flat (by kernel_rfl)) (fun y99 => ?_)
     refine or_ [2, 0, 0, 0] ?_
     obtain ⟨l102, hm103, h104⟩ := bS h98
     refine oa 24 y99.2 Try.t3 (.int .i64 0) (fun γ w hs => ⟨y99.2, (hs.view 1 rfl)⟩) hm103 (fun y101 => ?_)
     refine oN 1 [(5, .v (.slice y101.1 l102.length y101.2))] [11, 9, 8, 7, 6, 4, 3] ?_
     refine oe (nt (qs (qr (oN 2 [(69, .v (vBand t84.1)), (68, .v (.slice y40.1.1 s39.2.2.1.length y40.1.2))] [5, 11, 8, 7, 4, 3] ?_))))
     refine ob [] [SlRes 3 l102 y101.1 y101.2, SlRes 3 ([x96] : List Int) y99.1 y99.2, SlRes 54 s39.2.2.1 y40.1.1 y40.1.2, SlRes 3 t28 y31.1 y31.2] 54 1 [.int .i64 t84.1.Low, .int .i64 t84.1.High] ([t84.1] : List Band) (own_flat (by kernel_rfl)) (fun y105 => ?_)
     refine JO_res (R' := [SlRes 54 s39.2.2.1 y40.1.1 y40.1.2, SlRes 54 ([t84.1] : List Band) y105.1 y105.2, SlRes 3 l102 y101.1 y101.2, SlRes 3 ([x96] : List Int) y99.1 y99.2, SlRes 3 t28 y31.1 y31.2]) [3, 0, 0, 0, 0] (by kernel_rfl) ?_
     obtain ⟨l108, hm109, h110⟩ := bS h104
     refine oa 52 y105.2 Try.t54 (vBand (Band.mk 0 0)) (fun γ w hs => ⟨y105.2, (hs.view 1 rfl)⟩) hm109 (fun y107 => ?_)
     refine oN 1 [(6, .v (.slice y107.1 l108.length y107.2))] [5, 11, 8, 7, 4, 3] ?_
     refine oe (nt (qr (oN 4 [(7, vi (w64 (s39.2.1 + t92.1)))] [6, 5, 8, 4, 3] ?_)))
     refine oe (bn (nt (qr (oN 3 [(8, vi (w64 (s39.1 + 1)))] [7, 6, 5, 4, 3] ?_))))
     exact oe (ct h110 ((y107.1, y107.2), (y101.1, y101.2)) [8, 7, 6, 5, 4, 3] [0, 1, 2] 0)
   refine qx (nx (nx (bh ?_)))
   have h111 := leafB hd48 h77 h44
   exact mp ((s39.2.1, s39.2.2.1, s39.2.2.2), ((y40.1.1, y40.1.2), (y40.2.1, y40.2.2))) h111 [7, 6, 5] [0, 0] 0
 have h51 := (congrFun hk46 _).symm.trans h51p
 refine nt (qs (qr (oN 2 [(77, .v (.slice y50.2.1.1 y50.1.2.1.length y50.2.1.2)), (76, .v (.slice y50.2.2.1 y50.1.2.2.length y50.2.2.2))] [7, 6, 5] ?_)))
 obtain ⟨t52, h53, h54⟩ := bS h51
 refine k0 (fun γ w hs => c_impl_LiabilityOf h53 (hs.view 1 rfl) (hs.view 0 rfl)) ?_
 refine oN 5 [(14, vb t52.2), (13, vi t52.1)] [7, 6, 5] ?_
 refine oe (nt (qs (qr (oN 1 [(82, .v (.slice y50.2.2.1 y50.1.2.2.length y50.2.2.2))] [14, 13, 7, 6] ?_))))
 refine ob [] [SlRes 54 y50.1.2.1 y50.2.1.1 y50.2.1.2, SlRes 3 y50.1.2.2 y50.2.2.1 y50.2.2.2] 3 1 [.int .i64 1] ([1] : List Int) (own_flat (by kernel_rfl)) (fun y56 => ?_)
 refine or_ [2, 0, 0] ?_
 obtain ⟨l59, hm60, h61⟩ := bS h54
 refine oa 24 y56.2 Try.t3 (.int .i64 0) (fun γ w hs => ⟨y56.2, (hs.view 1 rfl)⟩) hm60 (fun y58 => ?_)
 refine oN 1 [(85, .v (.slice y50.2.1.1 y50.1.2.1.length y50.2.1.2))] [84, 14, 13, 7] ?_
 obtain ⟨t62, h63, h64⟩ := bS h61
 refine k0 (fun γ w hs => c_impl_LiabilityOf h63 (hs.view 0 rfl) (hs.view 2 rfl)) ?_
 refine oN 5 [(16, vb t62.2)] [14, 13, 7] ?_
 refine oe (nt (qs ?_))
 obtain ⟨p66, hE67, h68⟩ := bS h64
 refine JC_cut (τ := Unit) (fun _ => [(2, vb p66)]) (fun _ => []) (fun _ => []) ?_ (fun _ => ?_)
 · refine qr (oN 2 [(90, vb t52.2)] [16, 13, 7] ?_)
   refine oS 90 hE67 (fun h70 => ?_) (fun h71 => ?_)
   · refine oN 5 [(95, vb (t52.1 == y50.1.1))] [16] ?_
     refine oS 95 h70 (fun h73 => ?_) (fun h74 => ?_)
     · refine oN 4 [(2, vb (!t62.2))] [] ?_
       refine oe ?_
       obtain rfl := sI h73
       exact mt () [2] [] 0
     refine oN 4 [(2, vb false)] [] ?_
     refine oe ?_
     obtain rfl := sI h74
     exact mt () [2] [] 0
   refine oN 9 [(2, vb false)] [] ?_
   refine oe ?_
   obtain rfl := sI h71
   exact mt () [2] [] 0
 refine nt (qe ?_)
 obtain rfl := sI h68
 exact re [.bool p66]
end Go.Pen
