/-
  Each Go function does what its plain function says: written by a program of ours.
-/
import Derived.Test.YtlbmppekoblniaaF
import Derived.Test.YtlbmppekoblniaaProg
import Derived.Test.YtlbmppekoblniaaPenK
import Derived.Test.YtlbmppekoblniaaPenJ
import Derived.Test.YtlbmppekoblniaaPenP
import Derived.Test.YtlbmppekoblniaaPenM
namespace Go.Pen
open Go.Proofs Go.RowKit
set_option linter.unusedVariables false
set_option linter.unusedSimpArgs false
set_option maxRecDepth 100000
set_option maxHeartbeats 4000000

theorem c_laws_big {W : World} {x0 : List U8} {a0_0 : Option Addr} {c0_0 : Nat} {r : Bool} (h : laws_big x0 = some r) (hv0_0 : SlView W x0 a0_0 c0_0) :
    Gives0 Try.prog 15 #[.slice a0_0 x0.length c0_0] W (.bool r) := by
 unfold laws_big at h
 refine en Try.func15 Try.ntmps15 ?_
 refine qs (qr (oN 1 [] [0] ?_))
 refine oe (nt (qs (qr (oN 4 [(2, vb (decide ((x0.length : Int) > 1048576)))] [] ?_))))
 refine oe (nt (qe ?_))
 obtain rfl := sI h
 exact re [.bool (decide ((x0.length : Int) > 1048576))]

theorem c_spec_l01New {W : World} {x0 : List U8} {a0_0 : Option Addr} {c0_0 : Nat} {r : Int × Int} (h : spec_l01New x0 = some r) (hv0_0 : SlView W x0 a0_0 c0_0) :
    Gives Try.prog 31 #[.slice a0_0 x0.length c0_0] W (fun y : AC => (SV.q y.1 0).den []) (fun y => [CurRes 45 (CurD.mk x0 r.1 r.2) y.1 a0_0 c0_0]) := by
 unfold spec_l01New at h
 refine en Try.func31 Try.ntmps31 ?_
 refine qs (qr (oN 1 [] [0] ?_))
 refine oe (nt (qs (qr (oN 4 [(3, vi (w64 (98011 + (x0.length : Int))))] [0] ?_))))
 refine oe (nt (qs (qs (qr (oN 1 [(4, vi 0)] [3, 0] ?_)))))
 refine oe (nt ?_)
 obtain ⟨r24, hL25, h26⟩ := bS h
 obtain ⟨k27, hk28, h26⟩ := brkS h26
 refine JC_cutP (τ := (Int) × (Unit)) (fun y => k27 y.1 = some r) (fun y32 => [(3, vi y32.1), (0, .v (.slice a0_0 x0.length c0_0))]) (fun y32 => []) (fun y32 => []) ?_ (fun y32 h33p => ?_)
 · refine qb (lp Unit hL25 (fun s21 y22 => [(4, vi s21.1), (3, vi s21.2), (0, .v (.slice a0_0 x0.length c0_0))]) (fun s21 y22 => []) (fun s21 y22 => []) () [4, 3, 0] [] 0 (fun s21 y22 t23 h29 hd30 => ?_))
   refine qs (qs ?_)
   obtain ⟨p35, hE36, h37⟩ := bS h29
   refine JC_cut (τ := Unit) (fun _ => [(0, .v (.slice a0_0 x0.length c0_0)), (3, vi s21.2), (4, vi s21.1), (15, vb p35)]) (fun _ => []) (fun _ => []) ?_ (fun _ => ?_)
   · refine qr (oN 5 [(12, vb (decide (s21.1 < (x0.length : Int))))] [4, 3, 0] ?_)
     refine oS 12 hE36 (fun h39 => ?_) (fun h40 => ?_)
     · refine oN 3 [(15, vb (decide (s21.1 < 4000)))] [4, 3, 0] ?_
       refine oe ?_
       obtain rfl := sI h39
       exact mt () [0, 3, 4, 15] [] 0
     refine oN 3 [(15, vb false)] [4, 3, 0] ?_
     refine oe ?_
     obtain rfl := sI h40
     exact mt () [0, 3, 4, 15] [] 0
   refine nt (cC h37 (fun h42 => ?_) (fun h43 => ?_))
   · refine qk (nt (qs (qb (qr (oN 4 [(21, vi s21.1), (20, .v (.slice a0_0 x0.length c0_0)), (19, vi (w64 (s21.2 * 131)))] [0, 4] ?_)))))
     obtain ⟨x44, hx45, h46⟩ := bS h42
     refine oi 1 (fun γ w hs => (hv0_0.kept hs.kept)) hx45 ?_
     refine ol 5 0 (.int .u8 x44.n) (fun γ w hs => (hv0_0.kept hs.kept).flatq hx45) ?_
     refine oN 5 [(3, vi (and64 (w64 ((w64 ((w64 (s21.2 * 131)) + (w64 x44.n))) + 7)) 1073741823))] [0, 4] ?_
     refine oe (bn (nt (qr (oN 3 [(4, vi (w64 (s21.1 + 1)))] [3, 0] ?_))))
     exact oe (ct h46 () [4, 3, 0] [] 0)
   refine qx (nx (nx (bh ?_)))
   have h47 := leafB hd30 h43 h26
   exact mp (s21.2, ()) h47 [3, 0] [] 0
 have h33 := (congrFun hk28 _).symm.trans h33p
 refine nt (qs (qr (oN 3 [(30, .v (.agg #[.slice a0_0 x0.length c0_0, .int .i64 0, .int .i64 y32.1]))] [] ?_)))
 refine JO_newcur rfl (by kernel_rfl) (e := 45) (x := (CurD.mk x0 0 y32.1)) (a0 := a0_0) (c := c0_0) (cs := curCells (CurD.mk x0 0 y32.1) a0_0 c0_0) (by kernel_rfl) rfl (fun y34 => [(31, .q y34.1 0), (30, .v (.agg #[.slice a0_0 x0.length c0_0, .int .i64 0, .int .i64 y32.1]))]) (fun y34 => by kernel_rfl) (fun y34 => ?_)
 refine oN 1 [(2, .q y34.1 0)] [] ?_
 refine oe (nt (qe (JE_q1 ?_)))
 refine rt [(SV.q y34.1 0).den []] (fun γ w hs => ?_)
 rw [← sI h33]
 exact ⟨y34, rfl, hs.kept.toBelow, (hs.takeR (is := [0]) rfl).fresh⟩

theorem c_spec_l01Byte {W : World} {xb0 : List U8} {xi0 xh0 : Int} {p0 ca0 : Option Addr} {cc0 : Nat} {r : Int × Int × Int} (h : spec_l01Byte xb0 xi0 xh0 = some r) (hv0_0 : SlView W xb0 ca0 cc0) :
    GivesC Try.prog 45 37 #[(SV.q p0 0).den []] W (CurD.mk xb0 xi0 xh0) p0 ca0 cc0 (CurD.mk xb0 r.2.1 r.2.2) (fun y : Unit => .int .i64 r.1) (fun y => []) := by
 unfold spec_l01Byte at h
 refine enterC [.q p0 0] (args := [(SV.q p0 0).den []]) hv0_0 (by kernel_rfl) (by kernel_rfl) Try.func37 rfl Try.ntmps37 (by kernel_rfl) (fun g hg hs0 => ?_)
 refine qs (qr (oN 1 [] [0] ?_))
 refine oe (nt (qs (qr (oN 2 [(5, .q p0 0), (4, .q p0 0)] [0] ?_))))
 refine JO_nilq rfl (by kernel_rfl) (d := p0) (k := 0) (by kernel_rfl) (sl' := [(6, .q p0 0), (5, .q p0 0), (4, .q p0 0), (0, .q p0 0)]) (by kernel_rfl) ?_
 refine oN 1 [(7, .q p0 (0 + 2))] [4, 0] ?_
 refine ol 3 2 (.int .i64 xh0) (fun γ w hs => hs.cur 0 rfl) ?_
 refine oN 2 [(10, vi (w64 ((w64 (xh0 * 6364136223846793005)) + 1442695040888963407)))] [4, 0] ?_
 refine JO_nilq rfl (by kernel_rfl) (d := p0) (k := 0) (by kernel_rfl) (sl' := [(11, .q p0 0), (10, vi (w64 ((w64 (xh0 * 6364136223846793005)) + 1442695040888963407))), (4, .q p0 0), (0, .q p0 0)]) (by kernel_rfl) ?_
 refine oN 1 [(12, .q p0 (0 + 2))] [10, 0] ?_
 refine JO_cstore (e := 45) (x := CurD.mk xb0 xi0 xh0) (x' := CurD.mk xb0 xi0 (w64 ((w64 (xh0 * 6364136223846793005)) + 1442695040888963407))) (p := p0) (a0 := ca0) (c := cc0) rfl (by kernel_rfl) (2) (vs := [.int .i64 (w64 ((w64 (xh0 * 6364136223846793005)) + 1442695040888963407))]) (by kernel_rfl) (by kernel_rfl) (by kernel_rfl) (Rr := []) rfl (sl' := [(12, .q p0 (0 + 2)), (10, vi (w64 ((w64 (xh0 * 6364136223846793005)) + 1442695040888963407))), (0, .q p0 0)]) (by kernel_rfl) ?_
 refine oe (nt (qs (JC_quiet (by kernel_rfl) (by kernel_rfl) ?_)))
 refine qN 1 [(13, .q p0 0)] [0] ?_
 refine JQ_nilq rfl (by kernel_rfl) (d := p0) (k := 0) (by kernel_rfl) (sl' := [(14, .q p0 0), (13, .q p0 0), (0, .q p0 0)]) (by kernel_rfl) ?_
 refine qN 1 [(15, .q p0 (0 + 2))] [0] ?_
 refine ql 3 2 (.int .i64 (w64 ((w64 (xh0 * 6364136223846793005)) + 1442695040888963407))) (fun γ w hs => hs.cur 0 rfl) ?_
 refine qN 2 [(18, .q p0 0), (17, vi (Int.fdiv (w64 ((w64 (xh0 * 6364136223846793005)) + 1442695040888963407)) 8589934592))] [0] ?_
 refine JQ_nilq rfl (by kernel_rfl) (d := p0) (k := 0) (by kernel_rfl) (sl' := [(19, .q p0 0), (18, .q p0 0), (17, vi (Int.fdiv (w64 ((w64 (xh0 * 6364136223846793005)) + 1442695040888963407)) 8589934592)), (0, .q p0 0)]) (by kernel_rfl) ?_
 refine qN 1 [(20, .q p0 (0 + 2))] [17, 0] ?_
 refine ql 3 2 (.int .i64 (w64 ((w64 (xh0 * 6364136223846793005)) + 1442695040888963407))) (fun γ w hs => hs.cur 0 rfl) ?_
 refine qN 4 [(3, vi (and64 (xor64 (Int.fdiv (w64 ((w64 (xh0 * 6364136223846793005)) + 1442695040888963407)) 8589934592) (Int.fdiv (w64 ((w64 (xh0 * 6364136223846793005)) + 1442695040888963407)) 35184372088832)) 255))] [0] ?_
 refine qz (nt (qs (qs (JC_quiet (by kernel_rfl) (by kernel_rfl) ?_))))
 refine qN 1 [(25, .q p0 0)] [3, 0] ?_
 refine JQ_nilq rfl (by kernel_rfl) (d := p0) (k := 0) (by kernel_rfl) (sl' := [(26, .q p0 0), (25, .q p0 0), (3, vi (and64 (xor64 (Int.fdiv (w64 ((w64 (xh0 * 6364136223846793005)) + 1442695040888963407)) 8589934592) (Int.fdiv (w64 ((w64 (xh0 * 6364136223846793005)) + 1442695040888963407)) 35184372088832)) 255)), (0, .q p0 0)]) (by kernel_rfl) ?_
 refine qN 1 [(27, .q p0 (0 + 1))] [3, 0] ?_
 refine ql 3 1 (.int .i64 xi0) (fun γ w hs => hs.cur 0 rfl) ?_
 refine qN 1 [(29, .q p0 0)] [28, 3, 0] ?_
 refine JQ_nilq rfl (by kernel_rfl) (d := p0) (k := 0) (by kernel_rfl) (sl' := [(30, .q p0 0), (29, .q p0 0), (28, vi xi0), (3, vi (and64 (xor64 (Int.fdiv (w64 ((w64 (xh0 * 6364136223846793005)) + 1442695040888963407)) 8589934592) (Int.fdiv (w64 ((w64 (xh0 * 6364136223846793005)) + 1442695040888963407)) 35184372088832)) 255)), (0, .q p0 0)]) (by kernel_rfl) ?_
 refine qN 1 [(31, .q p0 (0))] [28, 3, 0] ?_
 refine ql 30 0 (.slice ca0 xb0.length cc0) (fun γ w hs => hs.cur 0 rfl) ?_
 refine qN 2 [(34, vb (decide (xi0 < (xb0.length : Int))))] [3, 0] ?_
 refine qz (nt ?_)
 obtain ⟨k27, hk28, h30⟩ := jS h
 refine JC_cutP (τ := (Int × Int) × (Unit)) (fun y => k27 y.1 = some r) (fun y26 => [(3, vi y26.1.1), (0, .q p0 0)]) (fun y26 => []) (fun y26 => [CurRes 45 (CurD.mk xb0 y26.1.2 (w64 ((w64 (xh0 * 6364136223846793005)) + 1442695040888963407))) p0 ca0 cc0]) ?_ (fun y26 h29p => ?_)
 · refine cC h30 (fun h32 => ?_) (fun h33 => ?_)
   · refine qs (JC_quiet (by kernel_rfl) (by kernel_rfl) ?_)
     refine qN 2 [(36, .q p0 0), (35, vi (and64 (xor64 (Int.fdiv (w64 ((w64 (xh0 * 6364136223846793005)) + 1442695040888963407)) 8589934592) (Int.fdiv (w64 ((w64 (xh0 * 6364136223846793005)) + 1442695040888963407)) 35184372088832)) 255))] [0] ?_
     refine JQ_nilq rfl (by kernel_rfl) (d := p0) (k := 0) (by kernel_rfl) (sl' := [(37, .q p0 0), (36, .q p0 0), (35, vi (and64 (xor64 (Int.fdiv (w64 ((w64 (xh0 * 6364136223846793005)) + 1442695040888963407)) 8589934592) (Int.fdiv (w64 ((w64 (xh0 * 6364136223846793005)) + 1442695040888963407)) 35184372088832)) 255)), (0, .q p0 0)]) (by kernel_rfl) ?_
     refine qN 1 [(38, .q p0 (0))] [35, 0] ?_
     refine ql 30 0 (.slice ca0 xb0.length cc0) (fun γ w hs => hs.cur 0 rfl) ?_
     refine qN 1 [(40, .q p0 0)] [39, 35, 0] ?_
     refine JQ_nilq rfl (by kernel_rfl) (d := p0) (k := 0) (by kernel_rfl) (sl' := [(41, .q p0 0), (40, .q p0 0), (39, .v (.slice ca0 xb0.length cc0)), (35, vi (and64 (xor64 (Int.fdiv (w64 ((w64 (xh0 * 6364136223846793005)) + 1442695040888963407)) 8589934592) (Int.fdiv (w64 ((w64 (xh0 * 6364136223846793005)) + 1442695040888963407)) 35184372088832)) 255)), (0, .q p0 0)]) (by kernel_rfl) ?_
     refine qN 1 [(42, .q p0 (0 + 1))] [39, 35, 0] ?_
     refine ql 3 1 (.int .i64 xi0) (fun γ w hs => hs.cur 0 rfl) ?_
     obtain ⟨x34, hx35, h36⟩ := bS h32
     refine qi 1 (fun γ w hs => (hs0.kept hs.kept)) hx35 ?_
     refine ql 5 0 (.int .u8 x34.n) (fun γ w hs => (hs0.kept hs.kept).flatq hx35) ?_
     refine qN 4 [(3, vi (and64 (w64 ((and64 (xor64 (Int.fdiv (w64 ((w64 (xh0 * 6364136223846793005)) + 1442695040888963407)) 8589934592) (Int.fdiv (w64 ((w64 (xh0 * 6364136223846793005)) + 1442695040888963407)) 35184372088832)) 255) + (w64 x34.n))) 255))] [0] ?_
     refine qz (nt (qr (oN 2 [(50, .q p0 0), (49, .q p0 0)] [3, 0] ?_)))
     refine JO_nilq rfl (by kernel_rfl) (d := p0) (k := 0) (by kernel_rfl) (sl' := [(51, .q p0 0), (50, .q p0 0), (49, .q p0 0), (3, vi (and64 (w64 ((and64 (xor64 (Int.fdiv (w64 ((w64 (xh0 * 6364136223846793005)) + 1442695040888963407)) 8589934592) (Int.fdiv (w64 ((w64 (xh0 * 6364136223846793005)) + 1442695040888963407)) 35184372088832)) 255) + (w64 x34.n))) 255)), (0, .q p0 0)]) (by kernel_rfl) ?_
     refine oN 1 [(52, .q p0 (0 + 1))] [49, 3, 0] ?_
     refine ol 3 1 (.int .i64 xi0) (fun γ w hs => hs.cur 0 rfl) ?_
     refine oN 1 [(54, vi (w64 (xi0 + 1)))] [49, 3, 0] ?_
     refine JO_nilq rfl (by kernel_rfl) (d := p0) (k := 0) (by kernel_rfl) (sl' := [(55, .q p0 0), (54, vi (w64 (xi0 + 1))), (49, .q p0 0), (3, vi (and64 (w64 ((and64 (xor64 (Int.fdiv (w64 ((w64 (xh0 * 6364136223846793005)) + 1442695040888963407)) 8589934592) (Int.fdiv (w64 ((w64 (xh0 * 6364136223846793005)) + 1442695040888963407)) 35184372088832)) 255) + (w64 x34.n))) 255)), (0, .q p0 0)]) (by kernel_rfl) ?_
     refine oN 1 [(56, .q p0 (0 + 1))] [54, 3, 0] ?_
     refine JO_cstore (e := 45) (x := CurD.mk xb0 xi0 (w64 ((w64 (xh0 * 6364136223846793005)) + 1442695040888963407))) (x' := CurD.mk xb0 (w64 (xi0 + 1)) (w64 ((w64 (xh0 * 6364136223846793005)) + 1442695040888963407))) (p := p0) (a0 := ca0) (c := cc0) rfl (by kernel_rfl) (1) (vs := [.int .i64 (w64 (xi0 + 1))]) (by kernel_rfl) (by kernel_rfl) (by kernel_rfl) (Rr := []) rfl (sl' := [(56, .q p0 (0 + 1)), (54, vi (w64 (xi0 + 1))), (3, vi (and64 (w64 ((and64 (xor64 (Int.fdiv (w64 ((w64 (xh0 * 6364136223846793005)) + 1442695040888963407)) 8589934592) (Int.fdiv (w64 ((w64 (xh0 * 6364136223846793005)) + 1442695040888963407)) 35184372088832)) 255) + (w64 x34.n))) 255)), (0, .q p0 0)]) (by kernel_rfl) ?_
     exact oe (mp ((and64 (w64 ((and64 (xor64 (Int.fdiv (w64 ((w64 (xh0 * 6364136223846793005)) + 1442695040888963407)) 8589934592) (Int.fdiv (w64 ((w64 (xh0 * 6364136223846793005)) + 1442695040888963407)) 35184372088832)) 255) + (w64 x34.n))) 255, w64 (xi0 + 1)), ()) h36 [3, 0] [0] 0)
   exact qk (mp ((and64 (xor64 (Int.fdiv (w64 ((w64 (xh0 * 6364136223846793005)) + 1442695040888963407)) 8589934592) (Int.fdiv (w64 ((w64 (xh0 * 6364136223846793005)) + 1442695040888963407)) 35184372088832)) 255, xi0), ()) h33 [3, 0] [0] 0)
 have h29 := (congrFun hk28 _).symm.trans h29p
 refine nt (qs (qr (oN 2 [(2, vi y26.1.1)] [0] ?_)))
 refine oe (nt (qe (rt [.int .i64 y26.1.1] (fun γ w hs => ?_))))
 rw [← sI h29]
 exact hs.curPost hg () (is := [0]) rfl

theorem c_spec_l01Below {W : World} {xb0 : List U8} {xi0 xh0 : Int} {p0 ca0 : Option Addr} {cc0 : Nat} {x1 : Int} {r : Int × Int × Int} (h : spec_l01Below xb0 xi0 xh0 x1 = some r) (hv0_0 : SlView W xb0 ca0 cc0) :
    GivesC Try.prog 45 32 #[(SV.q p0 0).den [], .int .i64 x1] W (CurD.mk xb0 xi0 xh0) p0 ca0 cc0 (CurD.mk xb0 r.2.1 r.2.2) (fun y : Unit => .int .i64 r.1) (fun y => []) := by
 unfold spec_l01Below at h
 refine enterC [.q p0 0, vi x1] (args := [(SV.q p0 0).den [], .int .i64 x1]) hv0_0 (by kernel_rfl) (by kernel_rfl) Try.func32 rfl Try.ntmps32 (by kernel_rfl) (fun g hg hs0 => ?_)
 refine qs (qr (oN 1 [] [0, 1] ?_))
 refine oe (nt (qs (qs (qr (oN 2 [(10, vb (decide (x1 ≤ 0)))] [0, 1] ?_)))))
 refine oe (nt (cC h (fun h22 => ?_) (fun h23 => ?_)))
 · refine qs (qr (oN 1 [(4, vi 0)] [0] ?_))
   refine oe (nt (qe (nr (rt [.int .i64 0] (fun γ w hs => ?_)))))
   rw [← sI h22]
   exact hs.curPost hg () (is := [0]) rfl
 refine qk (nt (qs (qs (qr (oN 2 [(12, vb (decide (x1 ≤ 256)))] [0, 1] ?_)))))
 refine oe (nt (cC h23 (fun h32 => ?_) (fun h33 => ?_)))
 · refine qs (qr (oN 1 [(13, .q p0 0)] [0, 1] ?_))
   obtain ⟨t34, h35, h36⟩ := bS h32
   refine JO_callC rfl (by kernel_rfl) (f := 37) (args := fun γ => #[(SV.q p0 0).den []]) (fun γ => by kernel_rfl) (x0 := CurD.mk xb0 xi0 xh0) (x1 := CurD.mk xb0 t34.2.1 t34.2.2) (Rr := []) rfl hs0 (fun γ w hs => (by have vv := c_spec_l01Byte (p0 := p0) (W := w) h35 (hs0.kept hs.kept); exact vv)) (fun (y37 : Unit) => [(14, vi t34.1), (13, .q p0 0), (0, .q p0 0), (1, vi x1)]) (fun y37 => by kernel_rfl) (fun y37 => ?_)
   refine oN 1 [(15, vi x1)] [14, 0] ?_
   obtain ⟨u40, hz39, h38⟩ := bS h36
   refine JO_div rfl (by kernel_rfl) (op := .rem) (k := .i64) (x := t34.1) (y := x1) (by kernel_rfl) (nz_some hz39) rfl ?_
   refine oN 1 [(4, vi (Int.tmod t34.1 x1))] [0] ?_
   refine oe (nt (qe (nr (rt [.int .i64 (Int.tmod t34.1 x1)] (fun γ w hs => ?_)))))
   rw [← sI h38]
   exact hs.curPost hg () (is := [0]) rfl
 refine qk (nt (qs (qr (oN 1 [(17, .q p0 0)] [0, 1] ?_))))
 obtain ⟨t41, h42, h43⟩ := bS h33
 refine JO_callC rfl (by kernel_rfl) (f := 37) (args := fun γ => #[(SV.q p0 0).den []]) (fun γ => by kernel_rfl) (x0 := CurD.mk xb0 xi0 xh0) (x1 := CurD.mk xb0 t41.2.1 t41.2.2) (Rr := []) rfl hs0 (fun γ w hs => (by have vv := c_spec_l01Byte (p0 := p0) (W := w) h42 (hs0.kept hs.kept); exact vv)) (fun (y44 : Unit) => [(18, vi t41.1), (17, .q p0 0), (0, .q p0 0), (1, vi x1)]) (fun y44 => by kernel_rfl) (fun y44 => ?_)
 refine oN 1 [(5, vi t41.1)] [0, 1] ?_
 refine oe (nt (qs (qr (oN 1 [(19, .q p0 0)] [5, 0, 1] ?_))))
 obtain ⟨t45, h46, h47⟩ := bS h43
 refine JO_callC rfl (by kernel_rfl) (f := 37) (args := fun γ => #[(SV.q p0 0).den []]) (fun γ => by kernel_rfl) (x0 := CurD.mk xb0 t41.2.1 t41.2.2) (x1 := CurD.mk xb0 t45.2.1 t45.2.2) (Rr := []) rfl hs0 (fun γ w hs => (by have vv := c_spec_l01Byte (p0 := p0) (W := w) h46 (hs0.kept hs.kept); exact vv)) (fun (y48 : Unit) => [(20, vi t45.1), (19, .q p0 0), (5, vi t41.1), (0, .q p0 0), (1, vi x1)]) (fun y48 => by kernel_rfl) (fun y48 => ?_)
 refine oN 1 [(6, vi t45.1)] [5, 0, 1] ?_
 refine oe (nt (qs (qr (oN 1 [(21, .q p0 0)] [6, 5, 0, 1] ?_))))
 obtain ⟨t49, h50, h51⟩ := bS h47
 refine JO_callC rfl (by kernel_rfl) (f := 37) (args := fun γ => #[(SV.q p0 0).den []]) (fun γ => by kernel_rfl) (x0 := CurD.mk xb0 t45.2.1 t45.2.2) (x1 := CurD.mk xb0 t49.2.1 t49.2.2) (Rr := []) rfl hs0 (fun γ w hs => (by have vv := c_spec_l01Byte (p0 := p0) (W := w) h50 (hs0.kept hs.kept); exact vv)) (fun (y52 : Unit) => [(22, vi t49.1), (21, .q p0 0), (6, vi t45.1), (5, vi t41.1), (0, .q p0 0), (1, vi x1)]) (fun y52 => by kernel_rfl) (fun y52 => ?_)
 refine oN 1 [(7, vi t49.1)] [6, 5, 0, 1] ?_
 refine oe (nt (qs (qr (oN 1 [(23, .q p0 0)] [7, 6, 5, 0, 1] ?_))))
 obtain ⟨t53, h54, h55⟩ := bS h51
 refine JO_callC rfl (by kernel_rfl) (f := 37) (args := fun γ => #[(SV.q p0 0).den []]) (fun γ => by kernel_rfl) (x0 := CurD.mk xb0 t49.2.1 t49.2.2) (x1 := CurD.mk xb0 t53.2.1 t53.2.2) (Rr := []) rfl hs0 (fun γ w hs => (by have vv := c_spec_l01Byte (p0 := p0) (W := w) h54 (hs0.kept hs.kept); exact vv)) (fun (y56 : Unit) => [(24, vi t53.1), (23, .q p0 0), (7, vi t49.1), (6, vi t45.1), (5, vi t41.1), (0, .q p0 0), (1, vi x1)]) (fun y56 => by kernel_rfl) (fun y56 => ?_)
 refine oN 1 [(8, vi t53.1)] [7, 6, 5, 0, 1] ?_
 refine oe (nt (qs (qr (oN 11 [(35, vi x1), (34, vi (w64 ((w64 ((w64 ((w64 (t41.1 * 16777216)) + (w64 (t45.1 * 65536)))) + (w64 (t49.1 * 256)))) + t53.1)))] [0] ?_))))
 obtain ⟨u59, hz58, h57⟩ := bS h55
 refine JO_div rfl (by kernel_rfl) (op := .rem) (k := .i64) (x := (w64 ((w64 ((w64 ((w64 (t41.1 * 16777216)) + (w64 (t45.1 * 65536)))) + (w64 (t49.1 * 256)))) + t53.1))) (y := x1) (by kernel_rfl) (nz_some hz58) rfl ?_
 refine oN 1 [(4, vi (Int.tmod (w64 ((w64 ((w64 ((w64 (t41.1 * 16777216)) + (w64 (t45.1 * 65536)))) + (w64 (t49.1 * 256)))) + t53.1)) x1))] [0] ?_
 refine oe (nt (qe (rt [.int .i64 (Int.tmod (w64 ((w64 ((w64 ((w64 (t41.1 * 16777216)) + (w64 (t45.1 * 65536)))) + (w64 (t49.1 * 256)))) + t53.1)) x1)] (fun γ w hs => ?_))))
 rw [← sI h57]
 exact hs.curPost hg () (is := [0]) rfl

theorem c_spec_l31Pensions {W : World} {xb0 : List U8} {xi0 xh0 : Int} {p0 ca0 : Option Addr} {cc0 : Nat} {r : (List Int) × Int × Int} (h : spec_l31Pensions xb0 xi0 xh0 = some r) (hv0_0 : SlView W xb0 ca0 cc0) :
    GivesC Try.prog 45 30 #[(SV.q p0 0).den []] W (CurD.mk xb0 xi0 xh0) p0 ca0 cc0 (CurD.mk xb0 r.2.1 r.2.2) (fun y : AC => .slice y.1 r.1.length y.2) (fun y => [SlRes 3 r.1 y.1 y.2]) := by
 unfold spec_l31Pensions at h
 refine enterC [.q p0 0] (args := [(SV.q p0 0).den []]) hv0_0 (by kernel_rfl) (by kernel_rfl) Try.func30 rfl Try.ntmps30 (by kernel_rfl) (fun g hg hs0 => ?_)
 refine qs (qr (oN 1 [] [0] ?_))
 refine oe (nt (qs (qr (ob [] [CurRes 45 (CurD.mk xb0 xi0 xh0) p0 ca0 cc0] 3 0 [] ([] : List Int) (own_flat (by kernel_rfl)) (fun y21 => ?_)))))
 refine oN 1 [(3, .v (.slice y21.1 ([] : List Int).length y21.2))] [0] ?_
 refine oe (nt (qs (qs (qr (oN 1 [(4, vi 0)] [3, 0] ?_)))))
 refine oe (nt ?_)
 obtain ⟨r26, hL27, h28⟩ := bS h
 obtain ⟨k29, hk30, h28⟩ := brkS h28
 refine JC_cutP (τ := ((List Int) × Int × Int) × (AC)) (fun y => k29 y.1 = some r) (fun y34 => [(3, .v (.slice y34.2.1 y34.1.1.length y34.2.2)), (0, .q p0 0)]) (fun y34 => []) (fun y34 => [SlRes 3 y34.1.1 y34.2.1 y34.2.2, CurRes 45 (CurD.mk xb0 y34.1.2.1 y34.1.2.2) p0 ca0 cc0]) ?_ (fun y34 h35p => ?_)
 · refine qb (lp AC hL27 (fun s23 y24 => [(4, vi s23.1), (3, .v (.slice y24.1 s23.2.1.length y24.2)), (0, .q p0 0)]) (fun s23 y24 => []) (fun s23 y24 => [SlRes 3 s23.2.1 y24.1 y24.2, CurRes 45 (CurD.mk xb0 s23.2.2.1 s23.2.2.2) p0 ca0 cc0]) (y21.1, y21.2) [4, 3, 0] [0, 0] 0 (fun s23 y24 t25 h31 hd32 => ?_))
   refine qs (qs (qr (oN 2 [(7, .q p0 0), (6, vi s23.1)] [4, 3, 0] ?_)))
   refine or_ [1, 0] ?_
   obtain ⟨t36, h37, h38⟩ := bS h31
   refine JO_callC rfl (by kernel_rfl) (f := 32) (args := fun γ => #[(SV.q p0 0).den [], .int .i64 9]) (fun γ => by kernel_rfl) (x0 := CurD.mk xb0 s23.2.2.1 s23.2.2.2) (x1 := CurD.mk xb0 t36.2.1 t36.2.2) (Rr := [SlRes 3 s23.2.1 y24.1 y24.2]) rfl hs0 (fun γ w hs => (by have vv := c_spec_l01Below (p0 := p0) (W := w) h37 (hs0.kept hs.kept); exact vv)) (fun (y39 : Unit) => [(8, vi t36.1), (7, .q p0 0), (6, vi s23.1), (4, vi s23.1), (3, .v (.slice y24.1 s23.2.1.length y24.2)), (0, .q p0 0)]) (fun y39 => by kernel_rfl) (fun y39 => ?_)
   refine oN 1 [(9, vb (decide (s23.1 < t36.1)))] [4, 3, 0] ?_
   refine oe (nt (cC h38 (fun h41 => ?_) (fun h42 => ?_)))
   · refine qk (nt (qs (qb (qr (oN 2 [(13, .q p0 0), (12, .v (.slice y24.1 s23.2.1.length y24.2))] [4, 0] ?_)))))
     obtain ⟨t43, h44, h45⟩ := bS h41
     refine JO_callC rfl (by kernel_rfl) (f := 32) (args := fun γ => #[(SV.q p0 0).den [], .int .i64 4000]) (fun γ => by kernel_rfl) (x0 := CurD.mk xb0 t36.2.1 t36.2.2) (x1 := CurD.mk xb0 t43.2.1 t43.2.2) (Rr := [SlRes 3 s23.2.1 y24.1 y24.2]) rfl hs0 (fun γ w hs => (by have vv := c_spec_l01Below (p0 := p0) (W := w) h44 (hs0.kept hs.kept); exact vv)) (fun (y46 : Unit) => [(14, vi t43.1), (13, .q p0 0), (12, .v (.slice y24.1 s23.2.1.length y24.2)), (4, vi s23.1), (0, .q p0 0)]) (fun y46 => by kernel_rfl) (fun y46 => ?_)
     refine oN 1 [(15, vi (w64 (t43.1 * 25)))] [12, 4, 0] ?_
     refine ob [] [CurRes 45 (CurD.mk xb0 t43.2.1 t43.2.2) p0 ca0 cc0, SlRes 3 s23.2.1 y24.1 y24.2] 3 1 [.int .i64 (w64 (t43.1 * 25))] ([w64 (t43.1 * 25)] : List Int) (own_flat (by kernel_rfl)) (fun y47 => ?_)
     refine or_ [2, 0, 0] ?_
     obtain ⟨l50, hm51, h52⟩ := bS h45
     refine oa 22 y47.2 Try.t3 (.int .i64 0) (fun γ w hs => ⟨y47.2, (hs.view 1 rfl)⟩) hm51 (fun y49 => ?_)
     refine oN 1 [(3, .v (.slice y49.1 l50.length y49.2))] [4, 0] ?_
     refine oe (bn (nt (qr (oN 3 [(4, vi (w64 (s23.1 + 1)))] [3, 0] ?_))))
     exact oe (ct h52 (y49.1, y49.2) [4, 3, 0] [0, 1] 0)
   refine qx (nx (nx (bh ?_)))
   have h53 := leafB hd32 h42 h28
   exact mp ((s23.2.1, t36.2.1, t36.2.2), (y24.1, y24.2)) h53 [3, 0] [1, 0] 0
 have h35 := (congrFun hk30 _).symm.trans h35p
 refine nt (qs (qr (oN 2 [(2, .v (.slice y34.2.1 y34.1.1.length y34.2.2))] [0] ?_)))
 refine oe (nt (qe (rt [.slice y34.2.1 y34.1.1.length y34.2.2] (fun γ w hs => ?_))))
 rw [← sI h35]
 exact hs.curPost hg y34.2 (is := [1, 0]) rfl

theorem c_spec_DrawPensions {W : World} {x0 : List U8} {a0_0 : Option Addr} {c0_0 : Nat} {r : (List Int)} (h : spec_DrawPensions x0 = some r) (hv0_0 : SlView W x0 a0_0 c0_0) :
    Gives Try.prog 16 #[.slice a0_0 x0.length c0_0] W (fun y : AC => .slice y.1 r.length y.2) (fun y => [SlRes 3 r y.1 y.2]) := by
 unfold spec_DrawPensions at h
 refine en Try.func16 Try.ntmps16 ?_
 refine qs (qr (oN 1 [] [0] ?_))
 refine oe (nt (qs (qr (oN 1 [(3, .v (.slice a0_0 x0.length c0_0))] [] ?_))))
 obtain ⟨t21, h22, h23⟩ := bS h
 refine JO_callN rfl (by kernel_rfl) (f := 31) (args := #[.slice a0_0 x0.length c0_0]) (by kernel_rfl) (fun γ w hs => (by have vv := c_spec_l01New (W := w) h22 (hv0_0.kept hs.kept); exact vv)) (fun y24 => [(4, .q y24.1 0), (3, .v (.slice a0_0 x0.length c0_0))]) (fun y24 => by kernel_rfl) (fun y24 => ?_)
 obtain ⟨t25, h26, h27⟩ := bS h23
 refine JO_callC rfl (by kernel_rfl) (f := 30) (args := fun γ => #[(SV.q y24.1 0).den []]) (fun γ => by kernel_rfl) (x0 := CurD.mk x0 t21.1 t21.2) (x1 := CurD.mk x0 t25.2.1 t25.2.2) (Rr := []) rfl (Seen.of hv0_0) (fun γ w hs => (by have vv := c_spec_l31Pensions (p0 := y24.1) (W := w) h26 (hv0_0.kept hs.kept); exact vv)) (fun (y28 : AC) => [(5, .v (.slice y28.1 t25.1.length y28.2)), (4, .q y24.1 0), (3, .v (.slice a0_0 x0.length c0_0))]) (fun y28 => by kernel_rfl) (fun y28 => ?_)
 refine oN 1 [(2, .v (.slice y28.1 t25.1.length y28.2))] [] ?_
 refine oe (nt (qe (rt [.slice y28.1 t25.1.length y28.2] (fun γ w hs => ?_))))
 rw [← sI h27]
 exact ⟨y28, rfl, hs.kept.toBelow, (hs.takeR (is := [0]) rfl).fresh⟩

theorem c_spec_DrawPlaces {W : World} {x0 : List U8} {a0_0 : Option Addr} {c0_0 : Nat} {r : (List Int)} (h : spec_DrawPlaces x0 = some r) (hv0_0 : SlView W x0 a0_0 c0_0) :
    Gives Try.prog 17 #[.slice a0_0 x0.length c0_0] W (fun y : AC => .slice y.1 r.length y.2) (fun y => [SlRes 3 r y.1 y.2]) := by
 unfold spec_DrawPlaces at h
 refine en Try.func17 Try.ntmps17 ?_
 refine qs (qr (oN 1 [] [0] ?_))
 refine oe (nt (qs (qr (oN 1 [(6, .v (.slice a0_0 x0.length c0_0))] [] ?_))))
 obtain ⟨t21, h22, h23⟩ := bS h
 refine JO_callN rfl (by kernel_rfl) (f := 31) (args := #[.slice a0_0 x0.length c0_0]) (by kernel_rfl) (fun γ w hs => (by have vv := c_spec_l01New (W := w) h22 (hv0_0.kept hs.kept); exact vv)) (fun y24 => [(7, .q y24.1 0), (6, .v (.slice a0_0 x0.length c0_0))]) (fun y24 => by kernel_rfl) (fun y24 => ?_)
 refine oN 1 [(3, .q y24.1 0)] [] ?_
 refine oe (nt (qs (qr (ob [] [CurRes 45 (CurD.mk x0 t21.1 t21.2) y24.1 a0_0 c0_0] 3 0 [] ([] : List Int) (own_flat (by kernel_rfl)) (fun y25 => ?_)))))
 refine oN 1 [(4, .v (.slice y25.1 ([] : List Int).length y25.2))] [3] ?_
 refine oe (nt (qs (qs (qr (oN 1 [(5, vi 0)] [4, 3] ?_)))))
 refine oe (nt ?_)
 obtain ⟨r30, hL31, h32⟩ := bS h23
 obtain ⟨k33, hk34, h32⟩ := brkS h32
 refine JC_cutP (τ := ((List Int)) × (AC)) (fun y => k33 y.1 = some r) (fun y38 => [(4, .v (.slice y38.2.1 y38.1.length y38.2.2))]) (fun y38 => []) (fun y38 => [SlRes 3 y38.1 y38.2.1 y38.2.2]) ?_ (fun y38 h39p => ?_)
 · refine qb (lp AC hL31 (fun s27 y28 => [(5, vi s27.1), (4, .v (.slice y28.1 s27.2.1.length y28.2)), (3, .q y24.1 0)]) (fun s27 y28 => []) (fun s27 y28 => [SlRes 3 s27.2.1 y28.1 y28.2, CurRes 45 (CurD.mk x0 s27.2.2.1 s27.2.2.2) y24.1 a0_0 c0_0]) (y25.1, y25.2) [5, 4, 3] [0, 0] 0 (fun s27 y28 t29 h35 hd36 => ?_))
   refine qs (qs (qr (oN 2 [(10, vb (decide (s27.1 < 12)))] [5, 4, 3] ?_)))
   refine oe (nt (cC h35 (fun h41 => ?_) (fun h42 => ?_)))
   · refine qk (nt (qs (qb (qr (oN 2 [(14, .q y24.1 0), (13, .v (.slice y28.1 s27.2.1.length y28.2))] [5, 3] ?_)))))
     refine or_ [1, 0] ?_
     obtain ⟨t43, h44, h45⟩ := bS h41
     refine JO_callC rfl (by kernel_rfl) (f := 32) (args := fun γ => #[(SV.q y24.1 0).den [], .int .i64 10000]) (fun γ => by kernel_rfl) (x0 := CurD.mk x0 s27.2.2.1 s27.2.2.2) (x1 := CurD.mk x0 t43.2.1 t43.2.2) (Rr := [SlRes 3 s27.2.1 y28.1 y28.2]) rfl (Seen.of hv0_0) (fun γ w hs => (by have vv := c_spec_l01Below (p0 := y24.1) (W := w) h44 (hv0_0.kept hs.kept); exact vv)) (fun (y46 : Unit) => [(15, vi t43.1), (14, .q y24.1 0), (13, .v (.slice y28.1 s27.2.1.length y28.2)), (5, vi s27.1), (3, .q y24.1 0)]) (fun y46 => by kernel_rfl) (fun y46 => ?_)
     refine ob [] [CurRes 45 (CurD.mk x0 t43.2.1 t43.2.2) y24.1 a0_0 c0_0, SlRes 3 s27.2.1 y28.1 y28.2] 3 1 [.int .i64 t43.1] ([t43.1] : List Int) (own_flat (by kernel_rfl)) (fun y47 => ?_)
     refine or_ [2, 0, 0] ?_
     obtain ⟨l50, hm51, h52⟩ := bS h45
     refine oa 22 y47.2 Try.t3 (.int .i64 0) (fun γ w hs => ⟨y47.2, (hs.view 1 rfl)⟩) hm51 (fun y49 => ?_)
     refine oN 1 [(4, .v (.slice y49.1 l50.length y49.2))] [5, 3] ?_
     refine oe (bn (nt (qr (oN 3 [(5, vi (w64 (s27.1 + 1)))] [4, 3] ?_))))
     exact oe (ct h52 (y49.1, y49.2) [5, 4, 3] [0, 1] 0)
   refine qx (nx (nx (bh ?_)))
   have h53 := leafB hd36 h42 h32
   exact mp (s27.2.1, (y28.1, y28.2)) h53 [4] [0] 0
 have h39 := (congrFun hk34 _).symm.trans h39p
 refine nt (qs (qr (oN 2 [(2, .v (.slice y38.2.1 y38.1.length y38.2.2))] [] ?_)))
 refine oe (nt (qe (rt [.slice y38.2.1 y38.1.length y38.2.2] (fun γ w hs => ?_))))
 rw [← sI h39]
 exact ⟨y38.2, rfl, hs.kept.toBelow, (hs.takeR (is := [0]) rfl).fresh⟩

theorem c_impl_within {W : World} {x0 : Int} {x1 : Int} {x2 : Int} {r : Bool} (h : impl_within x0 x1 x2 = some r)  :
    Gives0 Try.prog 25 #[.int .i64 x0, .int .i64 x1, .int .i64 x2] W (.bool r) := by
 unfold impl_within at h
 refine en Try.func25 Try.ntmps25 ?_
 refine qs (qr (oN 1 [] [0, 1, 2] ?_))
 refine oe (nt (qs ?_))
 obtain ⟨p21, hE22, h23⟩ := bS h
 refine JC_cut (τ := Unit) (fun _ => [(6, vb p21)]) (fun _ => []) (fun _ => []) ?_ (fun _ => ?_)
 · refine qr (oN 4 [(10, vb (decide (x1 ≤ x0)))] [0, 2] ?_)
   refine oS 10 hE22 (fun h25 => ?_) (fun h26 => ?_)
   · refine oN 5 [(6, vb (decide (x0 ≤ x2)))] [] ?_
     refine oe ?_
     obtain rfl := sI h25
     exact mt () [6] [] 0
   refine oN 5 [(6, vb false)] [] ?_
   refine oe ?_
   obtain rfl := sI h26
   exact mt () [6] [] 0
 refine nt (qe ?_)
 obtain rfl := sI h23
 exact re [.bool p21]

theorem c_impl_allWithin_1 {W : World} {x0 : Int} {gf_0 : Nat} {zf_0 : Int} {gf_1 : Nat} {zf_1 : Int} {r : Bool} (h : impl_allWithin_1 x0 zf_0 zf_1 = some r) (hcf_0 : CellsAt W (some ⟨gf_0, 0, none⟩) 0 [.int .i64 zf_0]) (hcf_1 : CellsAt W (some ⟨gf_1, 0, none⟩) 0 [.int .i64 zf_1]) :
    Gives0 Try.prog 39 #[.int .i64 x0, .pointer (some ⟨gf_0, 0, none⟩), .pointer (some ⟨gf_1, 0, none⟩)] W (.bool r) := by
 unfold impl_allWithin_1 at h
 refine enterD [vi x0, .q (some ⟨gf_0, 0, none⟩) (0), .q (some ⟨gf_1, 0, none⟩) (0)] (args := [.int .i64 x0, .pointer (some ⟨gf_0, 0, none⟩), .pointer (some ⟨gf_1, 0, none⟩)]) (by kernel_rfl) (by kernel_rfl) Try.func39 rfl Try.ntmps39 (by kernel_rfl) ?_
 refine qs (qr (oN 1 [] [0, 1, 2] ?_))
 refine oe (nt (qs (qr (oN 1 [(5, vi x0)] [1, 2] ?_))))
 refine ol 3 0 (.int .i64 zf_0) (fun γ w hs => ⟨by simp, hcf_0.kept hs.kept⟩) ?_
 refine ol 3 0 (.int .i64 zf_1) (fun γ w hs => ⟨by simp, hcf_1.kept hs.kept⟩) ?_
 obtain ⟨t21, h22, h23⟩ := bS h
 refine k0 (fun γ w hs => c_impl_within h22) ?_
 refine oN 2 [(4, vb (!t21))] [] ?_
 refine oe (nt (qe ?_))
 obtain rfl := sI h23
 exact re [.bool (!t21)]

theorem c_slices_IndexFunc_int__impl_allWithin_1 {W : World} {x0 : List Int} {a0_0 : Option Addr} {c0_0 : Nat} {g1_0 : Nat} {z1_0 : Int} {g1_1 : Nat} {z1_1 : Int} {r : Int} (h : slices_IndexFunc_int__impl_allWithin_1 x0 z1_0 z1_1 = some r) (hv0_0 : SlView W x0 a0_0 c0_0) (hc1_0 : CellsAt W (some ⟨g1_0, 0, none⟩) 0 [.int .i64 z1_0]) (hc1_1 : CellsAt W (some ⟨g1_1, 0, none⟩) 0 [.int .i64 z1_1]) :
    Gives0 Try.prog 42 #[.slice a0_0 x0.length c0_0, .func (.func 39) #[] #[.pointer (some ⟨g1_0, 0, none⟩), .pointer (some ⟨g1_1, 0, none⟩)]] W (.int .i64 r) := by
 unfold slices_IndexFunc_int__impl_allWithin_1 at h
 refine en Try.func42 Try.ntmps42 ?_
 refine qs (qr (oN 1 [] [0, 1] ?_))
 refine oe (nt (qs (qs (qr (oN 3 [(8, vi 0), (7, vi (x0.length : Int))] [0, 1] ?_)))))
 refine oe (nt ?_)
 obtain ⟨r24, hL25, h26⟩ := bS h
 obtain ⟨k27, hk28, h26⟩ := brkS h26
 refine JC_cutP (τ := (Unit) × (Unit)) (fun y => k27 y.1 = some r) (fun y32 => []) (fun y32 => []) (fun y32 => []) ?_ (fun y32 h33p => ?_)
 · refine qb (lp Unit hL25 (fun s21 y22 => [(8, vi s21), (7, vi (x0.length : Int)), (0, .v (.slice a0_0 x0.length c0_0)), (1, .v (.func (.func 39) #[] #[.pointer (some ⟨g1_0, 0, none⟩), .pointer (some ⟨g1_1, 0, none⟩)]))]) (fun s21 y22 => []) (fun s21 y22 => []) () [8, 7, 0, 1] [] 0 (fun s21 y22 t23 h29 hd30 => ?_))
   refine qs (qr (oN 1 [(9, vb (decide (s21 < (x0.length : Int))))] [8, 7, 0, 1] ?_))
   refine oe (nt (qs (cC h29 (fun h35 => ?_) (fun h36 => ?_))))
   · refine qk (nt (qs (qb (qs (qr (oN 2 [(5, vi s21)] [8, 7, 0, 1] ?_))))))
     refine oe (nt (qs (qr (oN 3 [(13, vi s21), (12, .v (.slice a0_0 x0.length c0_0)), (11, .v (.func (.func 39) #[] #[.pointer (some ⟨g1_0, 0, none⟩), .pointer (some ⟨g1_1, 0, none⟩)]))] [5, 8, 7, 0, 1] ?_))))
     obtain ⟨x37, hx38, h39⟩ := bS h35
     refine oi 1 (fun γ w hs => (hv0_0.kept hs.kept)) hx38 ?_
     refine ol 3 0 (.int .i64 x37) (fun γ w hs => (hv0_0.kept hs.kept).flatq hx38) ?_
     obtain ⟨t40, h41, h42⟩ := bS h39
     refine k0 (fun γ w hs => c_impl_allWithin_1 h41 (hc1_0.kept hs.kept) (hc1_1.kept hs.kept)) ?_
     refine oe (nt (cC h42 (fun h45 => ?_) (fun h46 => ?_)))
     · refine qs (qr (oN 2 [(4, vi s21)] [] ?_))
       refine oe (nt (qe (br (nr (nr ?_)))))
       have h47 := leafR hd30 h45 h26
       refine br (nr (nr ?_))
       obtain rfl := sI h47
       exact re [.int .i64 s21]
     refine qk (bn (nt (qr (oN 2 [(8, vi (w64 (s21 + 1)))] [7, 0, 1] ?_))))
     exact oe (ct h46 () [8, 7, 0, 1] [] 0)
   refine qx (nx (nx (bh ?_)))
   have h48 := leafB hd30 h36 h26
   exact mp ((), ()) h48 [] [] 0
 have h33 := (congrFun hk28 _).symm.trans h33p
 refine nt (qs (qr (oN 1 [(4, vi (-1))] [] ?_)))
 refine oe (nt (qe ?_))
 obtain rfl := sI h33
 exact re [.int .i64 (-1)]

theorem c_slices_ContainsFunc_int__impl_allWithin_1 {W : World} {x0 : List Int} {a0_0 : Option Addr} {c0_0 : Nat} {g1_0 : Nat} {z1_0 : Int} {g1_1 : Nat} {z1_1 : Int} {r : Bool} (h : slices_ContainsFunc_int__impl_allWithin_1 x0 z1_0 z1_1 = some r) (hv0_0 : SlView W x0 a0_0 c0_0) (hc1_0 : CellsAt W (some ⟨g1_0, 0, none⟩) 0 [.int .i64 z1_0]) (hc1_1 : CellsAt W (some ⟨g1_1, 0, none⟩) 0 [.int .i64 z1_1]) :
    Gives0 Try.prog 38 #[.slice a0_0 x0.length c0_0, .func (.func 39) #[] #[.pointer (some ⟨g1_0, 0, none⟩), .pointer (some ⟨g1_1, 0, none⟩)]] W (.bool r) := by
 unfold slices_ContainsFunc_int__impl_allWithin_1 at h
 refine en Try.func38 Try.ntmps38 ?_
 refine qs (qr (oN 1 [] [0, 1] ?_))
 refine oe (nt (qs (qr (oN 2 [(6, .v (.func (.func 39) #[] #[.pointer (some ⟨g1_0, 0, none⟩), .pointer (some ⟨g1_1, 0, none⟩)])), (5, .v (.slice a0_0 x0.length c0_0))] [] ?_))))
 obtain ⟨t21, h22, h23⟩ := bS h
 refine k0 (fun γ w hs => c_slices_IndexFunc_int__impl_allWithin_1 h22 (hv0_0.kept hs.kept) (hc1_0.kept hs.kept) (hc1_1.kept hs.kept)) ?_
 refine oN 2 [(4, vb (decide (t21 ≥ 0)))] [] ?_
 refine oe (nt (qe ?_))
 obtain rfl := sI h23
 exact re [.bool (decide (t21 ≥ 0))]

theorem c_impl_allWithin {W : World} {x0 : List Int} {a0_0 : Option Addr} {c0_0 : Nat} {x1 : Int} {x2 : Int} {r : Bool} (h : impl_allWithin x0 x1 x2 = some r) (hv0_0 : SlView W x0 a0_0 c0_0) :
    Gives0 Try.prog 33 #[.slice a0_0 x0.length c0_0, .int .i64 x1, .int .i64 x2] W (.bool r) := by
 unfold impl_allWithin at h
 refine en Try.func33 Try.ntmps33 ?_
 refine qs (qr (oB 3 [(5, .p 1 0), (4, .p 0 0)] [0] [(3, [.int .i64 x1]), (3, [.int .i64 x2])] ?_))
 refine oe (nt (qs (qr (oN 1 [(7, .v (.slice a0_0 x0.length c0_0))] [5, 4] ?_))))
 refine JO_mkfunc rfl (by kernel_rfl) (x := .f 39 [(0, 0), (1, 0)]) (by kernel_rfl) rfl ?_
 obtain ⟨t21, h22, h23⟩ := bS h
 refine JO_callD0 rfl (by kernel_rfl) (f := 38) (args := fun γ => #[.slice a0_0 x0.length c0_0, .func (.func 39) #[] #[.pointer (some ⟨γ.getD 0 0, 0, none⟩), .pointer (some ⟨γ.getD 1 0, 0, none⟩)]]) (fun γ => by kernel_rfl) (x := .bool t21) (fun γ w hs => (by have vv := c_slices_ContainsFunc_int__impl_allWithin_1 (W := w) h22 (hv0_0.kept hs.kept) (hs.boxCells (k := 0) (e := 3) (by kernel_rfl)) (hs.boxCells (k := 1) (e := 3) (by kernel_rfl)); exact vv)) rfl ?_
 refine oN 2 [(6, vb (!t21))] [] ?_
 refine oe (nt (qe ?_))
 obtain rfl := sI h23
 exact re [.bool (!t21)]

theorem c_impl_arePensions {W : World} {x0 : List Int} {a0_0 : Option Addr} {c0_0 : Nat} {r : Bool} (h : impl_arePensions x0 = some r) (hv0_0 : SlView W x0 a0_0 c0_0) :
    Gives0 Try.prog 24 #[.slice a0_0 x0.length c0_0] W (.bool r) := by
 unfold impl_arePensions at h
 refine en Try.func24 Try.ntmps24 ?_
 refine qs (qr (oN 1 [] [0] ?_))
 refine oe (nt (qs ?_))
 obtain ⟨p21, hE22, h23⟩ := bS h
 refine JC_cut (τ := Unit) (fun _ => [(2, vb p21)]) (fun _ => []) (fun _ => []) ?_ (fun _ => ?_)
 · refine qr (oN 4 [(6, vb (decide ((x0.length : Int) ≤ 40)))] [0] ?_)
   refine oS 6 hE22 (fun h25 => ?_) (fun h26 => ?_)
   · refine oN 1 [(7, .v (.slice a0_0 x0.length c0_0))] [6] ?_
     obtain ⟨t27, h28, h29⟩ := bS h25
     refine k0 (fun γ w hs => c_impl_allWithin h28 (hv0_0.kept hs.kept)) ?_
     refine oN 2 [(2, vb t27)] [] ?_
     refine oe ?_
     obtain rfl := sI h29
     exact mt () [2] [] 0
   refine oN 4 [(2, vb false)] [] ?_
   refine oe ?_
   obtain rfl := sI h26
   exact mt () [2] [] 0
 refine nt (qe ?_)
 obtain rfl := sI h23
 exact re [.bool p21]

theorem c_slices_Clone_int {W : World} {x0 : List Int} {a0_0 : Option Addr} {c0_0 : Nat} {r : (List Int)} (h : slices_Clone_int x0 = some r) (hv0_0 : SlView W x0 a0_0 c0_0) :
    Gives Try.prog 26 #[.slice a0_0 x0.length c0_0] W (fun y : AC => .slice y.1 r.length y.2) (fun y => [SlRes 3 r y.1 y.2]) := by
 unfold slices_Clone_int at h
 refine en Try.func26 Try.ntmps26 ?_
 refine qs (qr (oN 1 [] [0] ?_))
 refine oe (nt (qs (qs (qr (oN 1 [(3, .v (.slice a0_0 x0.length c0_0))] [0] ?_)))))
 rcases a0_0 with _ | d21
 · obtain rfl := hv0_0.nil rfl
   obtain rfl := hv0_0.nilE
   have h22 : (some ([] : List Int)) = some r := h
   refine oN 1 [(4, vb true)] [0] ?_
   refine oe (nt (JC_cond true (by kernel_rfl) (fun _ => ?_) (fun hb => by cases hb)))
   refine qs (qr (oN 1 [(2, .v (.slice none 0 0))] [] ?_))
   refine oe (nt (qe (nr (JE_addnil 3 (List.nil (α := Int)) rfl ?_))))
   refine rt [.slice none 0 0] (fun γ w hs => ?_)
   rw [← sI h22]
   exact ⟨(none, 0), rfl, hs.kept.toBelow, (hs.takeR (is := [0]) rfl).fresh⟩
 refine oN 1 [(4, vb false)] [0] ?_
 refine oe (nt (JC_cond false (by kernel_rfl) (fun hb => by cases hb) (fun _ => ?_)))
 refine qk (nt (qs (qr (ob [] [] 3 0 [] ([] : List Int) (own_flat (by kernel_rfl)) (fun y24 => ?_)))))
 refine oN 1 [(6, .v (.slice (some d21) x0.length c0_0))] [5] ?_
 obtain ⟨l27, hm28, h29⟩ := bS h
 refine oa 22 c0_0 Try.t3 (.int .i64 0) (fun γ w hs => ⟨c0_0, (hv0_0.kept hs.kept)⟩) hm28 (fun y26 => ?_)
 refine oN 1 [(2, .v (.slice y26.1 l27.length y26.2))] [] ?_
 refine oe (nt (qe (rt [.slice y26.1 l27.length y26.2] (fun γ w hs => ?_))))
 rw [← sI h29]
 exact ⟨y26, rfl, hs.kept.toBelow, (hs.takeR (is := [0]) rfl).fresh⟩

theorem c_impl_total {W : World} {x0 : List Int} {a0_0 : Option Addr} {c0_0 : Nat} {r : Int} (h : impl_total x0 = some r) (hv0_0 : SlView W x0 a0_0 c0_0) :
    Gives0 Try.prog 28 #[.slice a0_0 x0.length c0_0] W (.int .i64 r) := by
 unfold impl_total at h
 refine en Try.func28 Try.ntmps28 ?_
 refine qs (qr (oN 1 [] [0] ?_))
 refine oe (nt (qs (qr (oN 1 [(3, vi 0)] [0] ?_))))
 refine oe (nt (qs (qs (qr (oN 3 [(8, vi 0), (7, vi (x0.length : Int)), (6, .v (.slice a0_0 x0.length c0_0))] [3] ?_)))))
 refine oe (nt ?_)
 obtain ⟨r24, hL25, h26⟩ := bS h
 obtain ⟨k27, hk28, h26⟩ := brkS h26
 refine JC_cutP (τ := (Int) × (Unit)) (fun y => k27 y.1 = some r) (fun y32 => [(3, vi y32.1)]) (fun y32 => []) (fun y32 => []) ?_ (fun y32 h33p => ?_)
 · refine qb (lp Unit hL25 (fun s21 y22 => [(8, vi s21.1), (7, vi (x0.length : Int)), (6, .v (.slice a0_0 x0.length c0_0)), (3, vi s21.2)]) (fun s21 y22 => []) (fun s21 y22 => []) () [8, 7, 6, 3] [] 0 (fun s21 y22 t23 h29 hd30 => ?_))
   refine qs (qr (oN 1 [(9, vb (decide (s21.1 < (x0.length : Int))))] [8, 7, 6, 3] ?_))
   refine oe (nt (qs (cC h29 (fun h35 => ?_) (fun h36 => ?_))))
   · refine qk (nt (qs (qb (qs (qr ?_)))))
     obtain ⟨x37, hx38, h39⟩ := bS h35
     refine oi 1 (fun γ w hs => (hv0_0.kept hs.kept)) hx38 ?_
     refine ol 3 0 (.int .i64 x37) (fun γ w hs => (hv0_0.kept hs.kept).flatq hx38) ?_
     refine oN 1 [(5, vi x37)] [8, 7, 6, 3] ?_
     refine oe (nt (qr (oN 4 [(3, vi (w64 (s21.2 + x37)))] [8, 7, 6] ?_)))
     refine oe (bn (nt (qr (oN 2 [(8, vi (w64 (s21.1 + 1)))] [3, 7, 6] ?_))))
     exact oe (ct h39 () [8, 7, 6, 3] [] 0)
   refine qx (nx (nx (bh ?_)))
   have h40 := leafB hd30 h36 h26
   exact mp (s21.2, ()) h40 [3] [] 0
 have h33 := (congrFun hk28 _).symm.trans h33p
 refine nt (qs (qr (oN 2 [(2, vi y32.1)] [] ?_)))
 refine oe (nt (qe ?_))
 obtain rfl := sI h33
 exact re [.int .i64 y32.1]

theorem c_cmp_isNaN_int {W : World} {x0 : Int} {r : Bool} (h : cmp_isNaN_int x0 = some r)  :
    Gives0 Try.prog 41 #[.int .i64 x0] W (.bool r) := by
 unfold cmp_isNaN_int at h
 refine en Try.func41 Try.ntmps41 ?_
 refine qs (qr (oN 1 [] [0] ?_))
 refine oe (nt (qs (qr (oN 4 [(2, vb (x0 != x0))] [] ?_))))
 refine oe (nt (qe ?_))
 obtain rfl := sI h
 exact re [.bool (x0 != x0)]

theorem c_cmp_Compare_int {W : World} {x0 : Int} {x1 : Int} {r : Int} (h : cmp_Compare_int x0 x1 = some r)  :
    Gives0 Try.prog 36 #[.int .i64 x0, .int .i64 x1] W (.int .i64 r) := by
 unfold cmp_Compare_int at h
 refine en Try.func36 Try.ntmps36 ?_
 refine qs (qr (oN 1 [] [0, 1] ?_))
 refine oe (nt (qs (qr (oN 1 [(7, vi x0)] [0, 1] ?_))))
 obtain ⟨t21, h22, h23⟩ := bS h
 refine k0 (fun γ w hs => c_cmp_isNaN_int h22) ?_
 refine oN 1 [(5, vb t21)] [0, 1] ?_
 refine oe (nt (qs (qr (oN 1 [(9, vi x1)] [5, 0, 1] ?_))))
 obtain ⟨t25, h26, h27⟩ := bS h23
 refine k0 (fun γ w hs => c_cmp_isNaN_int h26) ?_
 refine oN 1 [(6, vb t25)] [5, 0, 1] ?_
 refine oe (nt (qs (qs (qr (oN 1 [(11, vb t21)] [6, 0, 1] ?_)))))
 refine oe (nt (cC h27 (fun h33 => ?_) (fun h34 => ?_)))
 · refine qs (qs (qr (oN 1 [(12, vb t25)] [] ?_)))
   refine oe (nt (cC h33 (fun h36 => ?_) (fun h37 => ?_)))
   · refine qs (qr (oN 1 [(4, vi 0)] [] ?_))
     refine oe (nt (qe (nr (nr ?_))))
     obtain rfl := sI h36
     exact re [.int .i64 0]
   refine qk (nt (qs (qr (oN 1 [(4, vi (-1))] [] ?_))))
   refine oe (nt (qe (nr ?_)))
   obtain rfl := sI h37
   exact re [.int .i64 (-1)]
 refine qk (nt (qs (qs (qr (oN 1 [(13, vb t25)] [0, 1] ?_)))))
 refine oe (nt (cC h34 (fun h39 => ?_) (fun h40 => ?_)))
 · refine qs (qr (oN 1 [(4, vi 1)] [] ?_))
   refine oe (nt (qe (nr ?_)))
   obtain rfl := sI h39
   exact re [.int .i64 1]
 refine qk (nt (qs (qs (qr (oN 3 [(16, vb (decide (x0 < x1)))] [0, 1] ?_)))))
 refine oe (nt (cC h40 (fun h42 => ?_) (fun h43 => ?_)))
 · refine qs (qr (oN 1 [(4, vi (-1))] [] ?_))
   refine oe (nt (qe (nr ?_)))
   obtain rfl := sI h42
   exact re [.int .i64 (-1)]
 refine qk (nt (qs (qs (qr (oN 3 [(19, vb (decide (x0 > x1)))] [] ?_)))))
 refine oe (nt (cC h43 (fun h45 => ?_) (fun h46 => ?_)))
 · refine qs (qr (oN 1 [(4, vi 1)] [] ?_))
   refine oe (nt (qe (nr ?_)))
   obtain rfl := sI h45
   exact re [.int .i64 1]
 refine qk (nt (qs (qr (oN 1 [(4, vi 0)] [] ?_))))
 refine oe (nt (qe ?_))
 obtain rfl := sI h46
 exact re [.int .i64 0]

theorem c_impl_Allocate_1 {W : World} {x0 : Int} {x1 : Int} {gf_0 : Nat} {zf_0 : Int} {gf_1 : Nat} {zf_1 : List Int} {af_1_0 : Option Addr} {cf_1_0 : Nat} {gf_2 : Nat} {zf_2 : Int} {r : Int} (h : impl_Allocate_1 x0 x1 zf_0 zf_1 zf_2 = some r) (hcf_0 : CellsAt W (some ⟨gf_0, 0, none⟩) 0 [.int .i64 zf_0]) (hvf_1_0 : SlView W zf_1 af_1_0 cf_1_0) (hcf_1 : CellsAt W (some ⟨gf_1, 0, none⟩) 0 [.slice af_1_0 zf_1.length cf_1_0]) (hcf_2 : CellsAt W (some ⟨gf_2, 0, none⟩) 0 [.int .i64 zf_2]) :
    Gives0 Try.prog 35 #[.int .i64 x0, .int .i64 x1, .pointer (some ⟨gf_0, 0, none⟩), .pointer (some ⟨gf_1, 0, none⟩), .pointer (some ⟨gf_2, 0, none⟩)] W (.int .i64 r) := by
 unfold impl_Allocate_1 at h
 refine enterD [vi x0, vi x1, .q (some ⟨gf_0, 0, none⟩) (0), .q (some ⟨gf_1, 0, none⟩) (0), .q (some ⟨gf_2, 0, none⟩) (0)] (args := [.int .i64 x0, .int .i64 x1, .pointer (some ⟨gf_0, 0, none⟩), .pointer (some ⟨gf_1, 0, none⟩), .pointer (some ⟨gf_2, 0, none⟩)]) (by kernel_rfl) (by kernel_rfl) Try.func35 rfl Try.ntmps35 (by kernel_rfl) ?_
 refine qs (qr (oN 1 [] [0, 1, 2, 3, 4] ?_))
 refine oe (nt (qs (JC_quiet (by kernel_rfl) (by kernel_rfl) ?_)))
 refine ql 3 0 (.int .i64 zf_0) (fun γ w hs => ⟨by simp, hcf_0.kept hs.kept⟩) ?_
 refine ql 22 0 (.slice af_1_0 zf_1.length cf_1_0) (fun γ w hs => ⟨by simp, hcf_1.kept hs.kept⟩) ?_
 refine qN 1 [(10, vi x1)] [9, 8, 0, 2, 3, 4] ?_
 obtain ⟨x21, hx22, h23⟩ := bS h
 refine qi 1 (fun γ w hs => (hvf_1_0.kept hs.kept)) hx22 ?_
 refine ql 3 0 (.int .i64 x21) (fun γ w hs => (hvf_1_0.kept hs.kept).flatq hx22) ?_
 refine qN 1 [(13, vi (w64 (zf_0 * x21)))] [0, 2, 3, 4] ?_
 refine ql 3 0 (.int .i64 zf_2) (fun γ w hs => ⟨by simp, hcf_2.kept hs.kept⟩) ?_
 obtain ⟨u26, hz25, h24⟩ := bS h23
 refine JQ_div rfl (by kernel_rfl) (op := .rem) (k := .i64) (x := (w64 (zf_0 * x21))) (y := zf_2) (by kernel_rfl) (nz_some hz25) rfl ?_
 refine ql 3 0 (.int .i64 zf_0) (fun γ w hs => ⟨by simp, hcf_0.kept hs.kept⟩) ?_
 refine ql 22 0 (.slice af_1_0 zf_1.length cf_1_0) (fun γ w hs => ⟨by simp, hcf_1.kept hs.kept⟩) ?_
 refine qN 1 [(18, vi x0)] [17, 16, 15, 4] ?_
 obtain ⟨x27, hx28, h29⟩ := bS h24
 refine qi 1 (fun γ w hs => (hvf_1_0.kept hs.kept)) hx28 ?_
 refine ql 3 0 (.int .i64 x27) (fun γ w hs => (hvf_1_0.kept hs.kept).flatq hx28) ?_
 refine qN 1 [(21, vi (w64 (zf_0 * x27)))] [15, 4] ?_
 refine ql 3 0 (.int .i64 zf_2) (fun γ w hs => ⟨by simp, hcf_2.kept hs.kept⟩) ?_
 obtain ⟨u32, hz31, h30⟩ := bS h29
 refine JQ_div rfl (by kernel_rfl) (op := .rem) (k := .i64) (x := (w64 (zf_0 * x27))) (y := zf_2) (by kernel_rfl) (nz_some hz31) rfl ?_
 obtain ⟨t33, h34, h35⟩ := bS h30
 refine q0 (fun γ w hs => c_cmp_Compare_int h34) ?_
 refine qN 1 [(7, vi t33)] [] ?_
 refine qz (nt (qe ?_))
 obtain rfl := sI h35
 exact re [.int .i64 t33]

theorem c_slices_insertionSortCmpFunc_int__impl_Allocate_1 {W : World} {x0 : List Int} {a0_0 : Option Addr} {c0_0 : Nat} {e0_0 : TypeId} {x1 : Int} {x2 : Int} {g3_0 : Nat} {z3_0 : Int} {g3_1 : Nat} {z3_1 : List Int} {g3_2 : Nat} {z3_2 : Int} {r : (List Int)} (h : slices_insertionSortCmpFunc_int__impl_Allocate_1 x0 x1 x2 z3_0 z3_1 z3_2 = some r)  :
    GivesMQ Try.prog (fun w => ∀ (q0 : Int) (q1 : Int) (r : Int), impl_Allocate_1 q0 q1 z3_0 z3_1 z3_2 = some r → Gives0 Try.prog 35 #[.int .i64 q0, .int .i64 q1, .pointer (some ⟨g3_0, 0, none⟩), .pointer (some ⟨g3_1, 0, none⟩), .pointer (some ⟨g3_2, 0, none⟩)] w (.int .i64 r)) 43 #[.slice a0_0 x0.length c0_0, .int .i64 x1, .int .i64 x2, .func (.func 35) #[] #[.pointer (some ⟨g3_0, 0, none⟩), .pointer (some ⟨g3_1, 0, none⟩), .pointer (some ⟨g3_2, 0, none⟩)]] W [SlRes e0_0 x0 a0_0 c0_0] [SlRes e0_0 r a0_0 c0_0] (.tuple #[]) := by
 unfold slices_insertionSortCmpFunc_int__impl_Allocate_1 at h
 refine enterMQ [.v (.slice a0_0 x0.length c0_0), vi x1, vi x2, .v (.func (.func 35) #[] #[.pointer (some ⟨g3_0, 0, none⟩), .pointer (some ⟨g3_1, 0, none⟩), .pointer (some ⟨g3_2, 0, none⟩)])] (args := [.slice a0_0 x0.length c0_0, .int .i64 x1, .int .i64 x2, .func (.func 35) #[] #[.pointer (some ⟨g3_0, 0, none⟩), .pointer (some ⟨g3_1, 0, none⟩), .pointer (some ⟨g3_2, 0, none⟩)]]) (by kernel_rfl) (by kernel_rfl) Try.func43 rfl Try.ntmps43 (by kernel_rfl) (fun Fs hq => ?_)
 refine qs (qr (oN 3 [(8, vi (w64 (x1 + 1)))] [0, 1, 2, 3] ?_))
 refine oe (nt ?_)
 obtain ⟨r24, hL25, h26⟩ := bS h
 obtain ⟨k27, hk28, h26⟩ := brkS h26
 refine JC_cutP (τ := ((List Int)) × (Unit)) (fun y => k27 y.1 = some r) (fun y32 => [(0, .v (.slice a0_0 y32.1.length c0_0)), (3, .v (.func (.func 35) #[] #[.pointer (some ⟨g3_0, 0, none⟩), .pointer (some ⟨g3_1, 0, none⟩), .pointer (some ⟨g3_2, 0, none⟩)]))]) (fun y32 => []) (fun y32 => [SlRes e0_0 y32.1 a0_0 c0_0]) ?_ (fun y32 h33p => ?_)
 · refine qb (lp Unit hL25 (fun s21 y22 => [(8, vi s21.1), (0, .v (.slice a0_0 s21.2.1.length c0_0)), (1, vi s21.2.2.1), (2, vi s21.2.2.2), (3, .v (.func (.func 35) #[] #[.pointer (some ⟨g3_0, 0, none⟩), .pointer (some ⟨g3_1, 0, none⟩), .pointer (some ⟨g3_2, 0, none⟩)]))]) (fun s21 y22 => []) (fun s21 y22 => [SlRes e0_0 s21.2.1 a0_0 c0_0]) () [8, 0, 1, 2, 3] [0] 0 (fun s21 y22 t23 h29 hd30 => ?_))
   refine qs (qs (qr (oN 3 [(14, vb (decide (s21.1 < s21.2.2.2)))] [8, 0, 1, 2, 3] ?_)))
   refine oe (nt (cC h29 (fun h35 => ?_) (fun h36 => ?_)))
   · refine qk (nt (qs (qb (qs (qr (oN 2 [(9, vi s21.1)] [8, 0, 1, 2, 3] ?_))))))
     refine oe (nt ?_)
     obtain ⟨r40, hL41, h42⟩ := bS h35
     obtain ⟨k43, hk44, h42⟩ := brkS h42
     refine JC_cutP (τ := (Int × (List Int) × Int × Int) × (Unit)) (fun y => k43 y.1 = some t23) (fun y48 => [(8, vi y48.1.1), (0, .v (.slice a0_0 y48.1.2.1.length c0_0)), (1, vi y48.1.2.2.1), (2, vi y48.1.2.2.2), (3, .v (.func (.func 35) #[] #[.pointer (some ⟨g3_0, 0, none⟩), .pointer (some ⟨g3_1, 0, none⟩), .pointer (some ⟨g3_2, 0, none⟩)]))]) (fun y48 => []) (fun y48 => [SlRes e0_0 y48.1.2.1 a0_0 c0_0]) ?_ (fun y48 h49p => ?_)
     · refine qb (lp Unit hL41 (fun s37 y38 => [(9, vi s37.1), (8, vi s21.1), (0, .v (.slice a0_0 s37.2.length c0_0)), (1, vi s21.2.2.1), (2, vi s21.2.2.2), (3, .v (.func (.func 35) #[] #[.pointer (some ⟨g3_0, 0, none⟩), .pointer (some ⟨g3_1, 0, none⟩), .pointer (some ⟨g3_2, 0, none⟩)]))]) (fun s37 y38 => []) (fun s37 y38 => [SlRes e0_0 s37.2 a0_0 c0_0]) () [9, 8, 0, 1, 2, 3] [0] 0 (fun s37 y38 t39 h45 hd46 => ?_))
       refine qs (qs ?_)
       obtain ⟨p50, hE51, h52⟩ := bS h45
       refine JC_cut (τ := Unit) (fun _ => [(0, .v (.slice a0_0 s37.2.length c0_0)), (1, vi s21.2.2.1), (2, vi s21.2.2.2), (3, .v (.func (.func 35) #[] #[.pointer (some ⟨g3_0, 0, none⟩), .pointer (some ⟨g3_1, 0, none⟩), .pointer (some ⟨g3_2, 0, none⟩)])), (8, vi s21.1), (9, vi s37.1), (34, vb p50)]) (fun _ => []) (fun _ => [SlRes e0_0 s37.2 a0_0 c0_0]) ?_ (fun _ => ?_)
       · refine JC_quiet (by kernel_rfl) (by kernel_rfl) ?_
         refine qN 4 [(21, vb (decide (s37.1 > s21.2.2.1)))] [9, 8, 0, 1, 2, 3] ?_
         refine qS 21 hE51 (fun h54 => ?_) (fun h55 => ?_)
         · refine qN 3 [(24, vi s37.1), (23, .v (.slice a0_0 s37.2.length c0_0)), (22, .v (.func (.func 35) #[] #[.pointer (some ⟨g3_0, 0, none⟩), .pointer (some ⟨g3_1, 0, none⟩), .pointer (some ⟨g3_2, 0, none⟩)]))] [21, 9, 8, 0, 1, 2, 3] ?_
           obtain ⟨x56, hx57, h58⟩ := bS h54
           refine qi 1 (fun γ w hs => (hs.view 0 rfl)) hx57 ?_
           refine ql 3 0 (.int .i64 x56) (fun γ w hs => (hs.view 0 rfl).flatq hx57) ?_
           refine qN 3 [(29, vi (w64 (s37.1 - 1))), (27, .v (.slice a0_0 s37.2.length c0_0))] [26, 22, 21, 9, 8, 0, 1, 2, 3] ?_
           obtain ⟨x59, hx60, h61⟩ := bS h58
           refine qi 1 (fun γ w hs => (hs.view 0 rfl)) hx60 ?_
           refine ql 3 0 (.int .i64 x59) (fun γ w hs => (hs.view 0 rfl).flatq hx60) ?_
           obtain ⟨t62, h63, h64⟩ := bS h61
           refine q0 (fun γ w hs => hq w hs.kept _ _ _ h63) ?_
           refine qN 2 [(34, vb (decide (t62 < 0)))] [9, 8, 0, 1, 2, 3] ?_
           refine qz ?_
           obtain rfl := sI h64
           exact mt () [0, 1, 2, 3, 8, 9, 34] [0] 0
         refine qN 13 [(34, vb false)] [9, 8, 0, 1, 2, 3] ?_
         refine qz ?_
         obtain rfl := sI h55
         exact mt () [0, 1, 2, 3, 8, 9, 34] [0] 0
       refine nt (cC h52 (fun h67 => ?_) (fun h68 => ?_))
       · refine qk (nt (qs (qb ?_)))
         obtain ⟨x69, hx70, h71⟩ := bS h67
         obtain ⟨x72, hx73, h74⟩ := bS h71
         obtain ⟨x75, hx76, h77⟩ := bS h74
         obtain ⟨l78, hm79, h80⟩ := bS h77
         replace hm79 := (sI hm79).symm
         have hl81 := len_set hm79
         obtain ⟨x82, hx83, h84⟩ := bS h80
         obtain ⟨l85, hm86, h87⟩ := bS h84
         replace hm86 := (sI hm86).symm
         have hl88 := len_set hm86
         refine JC_cut (τ := Unit) (fun _ => [(0, .v (.slice a0_0 l85.length c0_0)), (1, vi s21.2.2.1), (2, vi s21.2.2.2), (3, .v (.func (.func 35) #[] #[.pointer (some ⟨g3_0, 0, none⟩), .pointer (some ⟨g3_1, 0, none⟩), .pointer (some ⟨g3_2, 0, none⟩)])), (8, vi s21.1), (9, vi s37.1)]) (fun _ => []) (fun _ => [SlRes e0_0 l85 a0_0 c0_0]) ?_ (fun _ => ?_)
         · refine jw [0, 1, 2, 3, 8, 9] [0] ?_
           refine JC_heldN (ks := []) (Rk := []) 18 (by kernel_rfl) (by kernel_rfl) ?_
           refine htq 0 (.v (.slice a0_0 s37.2.length c0_0)) [] ?_
           refine htq 1 (vi s37.1) [] ?_
           refine htq 2 (.v (.slice a0_0 s37.2.length c0_0)) [] ?_
           refine htq 3 (vi s37.1) [] ?_
           refine htq 4 (vi (w64 (s37.1 - 1))) [] ?_
           refine hk [41, 39, 38, 37, 0, 1, 2, 3, 8, 9] ?_
           refine htq 5 (.v (.slice a0_0 s37.2.length c0_0)) [] ?_
           refine htq 6 (vi s37.1) [] ?_
           refine htq 7 (vi (w64 (s37.1 - 1))) [] ?_
           refine hk [44, 42, 41, 39, 38, 37, 0, 1, 2, 3, 8, 9] ?_
           refine htq 10 (.v (.slice a0_0 s37.2.length c0_0)) [] ?_
           refine htq 11 (vi s37.1) [] ?_
           refine ha2 8 12 ?_ ?_
           · refine hi (fun γ0 δ hm => ?_)
             refine JG_index (by kernel_rfl) (d := a0_0) (m := s37.2.length) (j := (w64 (s37.1 - 1))) (s := 1) (by kernel_rfl) (fun w hs => (hs.view 0 rfl)) rfl hx70 rfl ?_
             refine gn hm [45, 48, 47, 41, 39, 38, 37, 0, 1, 2, 3, 8, 9] [] ?_
             refine ha2 9 12 ?_ ?_
             · refine hi (fun γ0 δ hm => ?_)
               refine JG_loadq (by kernel_rfl) (t := 3) (d := a0_0) (Int.toNat (w64 (s37.1 - 1)) * 1) 0 (by kernel_rfl) (cs := [.int .i64 x69]) (v := .int .i64 x69) (fun w hs => (hs.view 0 rfl).flatq hx70) (by kernel_rfl) rfl ?_
               refine gn hm [46, 48, 47, 41, 39, 38, 37, 0, 1, 2, 3, 8, 9] [] ?_
               refine ha1 12 ?_
               refine hi (fun γ0 δ hm => ?_)
               refine JG_index (by kernel_rfl) (d := a0_0) (m := s37.2.length) (j := s37.1) (s := 1) (by kernel_rfl) (fun w hs => (hs.view 0 rfl)) rfl hx73 rfl ?_
               refine gn hm [49, 46, 41, 39, 38, 37, 0, 1, 2, 3, 8, 9] [] ?_
               refine ha1 13 ?_
               refine hi (fun γ0 δ hm => ?_)
               refine JG_loadq (by kernel_rfl) (t := 3) (d := a0_0) (Int.toNat s37.1 * 1) 0 (by kernel_rfl) (cs := [.int .i64 x72]) (v := .int .i64 x72) (fun w hs => (hs.view 0 rfl).flatq hx73) (by kernel_rfl) rfl ?_
               refine gn hm [50, 46, 41, 39, 38, 37, 0, 1, 2, 3, 8, 9] [] ?_
               refine ha1 14 ?_
               refine hi (fun γ0 δ hm => ?_)
               refine JG_index (by kernel_rfl) (d := a0_0) (m := s37.2.length) (j := s37.1) (s := 1) (by kernel_rfl) (fun w hs => (hs.view 0 rfl)) rfl hx76 rfl ?_
               refine gn hm [51, 50, 46, 41, 39, 0, 1, 2, 3, 8, 9] [] ?_
               refine ha1 15 ?_
               refine hi (fun γ0 δ hm => ?_)
               refine JG_storeq (α := Int) (d := a0_0) (vs := [.int .i64 x69]) (j := s37.1) (x' := x69) (by kernel_rfl) 0 (by kernel_rfl) hx76 (Rc := []) (Rr := []) rfl (by kernel_rfl) (fun w c F Fs ho _ _ => own_flat_set (by kernel_rfl) ho) hm79 (sl' := [(51, .q a0_0 (Int.toNat s37.1 * 1)), (50, vi x72), (46, vi x69), (41, vi (w64 (s37.1 - 1))), (39, .v (.slice a0_0 s37.2.length c0_0)), (0, .v (.slice a0_0 s37.2.length c0_0)), (1, vi s21.2.2.1), (2, vi s21.2.2.2), (3, .v (.func (.func 35) #[] #[.pointer (some ⟨g3_0, 0, none⟩), .pointer (some ⟨g3_1, 0, none⟩), .pointer (some ⟨g3_2, 0, none⟩)])), (8, vi s21.1), (9, vi s37.1)]) (by kernel_rfl) ?_
               refine KG_eqE (sl' := [(51, .q a0_0 (Int.toNat s37.1 * 1)), (50, vi x72), (46, vi x69), (41, vi (w64 (s37.1 - 1))), (39, .v (.slice a0_0 l78.length c0_0)), (0, .v (.slice a0_0 l78.length c0_0)), (1, vi s21.2.2.1), (2, vi s21.2.2.2), (3, .v (.func (.func 35) #[] #[.pointer (some ⟨g3_0, 0, none⟩), .pointer (some ⟨g3_1, 0, none⟩), .pointer (some ⟨g3_2, 0, none⟩)])), (8, vi s21.1), (9, vi s37.1)]) (bx' := []) (by simp only [hl81]) rfl ?_
               refine gn hm [50, 41, 39, 0, 1, 2, 3, 8, 9] [] ?_
               refine ha1 16 ?_
               refine hi (fun γ0 δ hm => ?_)
               refine JG_index (by kernel_rfl) (d := a0_0) (m := l78.length) (j := (w64 (s37.1 - 1))) (s := 1) (by kernel_rfl) (fun w hs => (hs.view 0 rfl)) rfl hx83 rfl ?_
               refine gn hm [52, 50, 0, 1, 2, 3, 8, 9] [] ?_
               refine ha1 17 ?_
               refine hi (fun γ0 δ hm => ?_)
               refine JG_storeq (α := Int) (d := a0_0) (vs := [.int .i64 x72]) (j := (w64 (s37.1 - 1))) (x' := x72) (by kernel_rfl) 0 (by kernel_rfl) hx83 (Rc := []) (Rr := []) rfl (by kernel_rfl) (fun w c F Fs ho _ _ => own_flat_set (by kernel_rfl) ho) hm86 (sl' := [(52, .q a0_0 (Int.toNat (w64 (s37.1 - 1)) * 1)), (50, vi x72), (0, .v (.slice a0_0 l78.length c0_0)), (1, vi s21.2.2.1), (2, vi s21.2.2.2), (3, .v (.func (.func 35) #[] #[.pointer (some ⟨g3_0, 0, none⟩), .pointer (some ⟨g3_1, 0, none⟩), .pointer (some ⟨g3_2, 0, none⟩)])), (8, vi s21.1), (9, vi s37.1)]) (by kernel_rfl) ?_
               refine KG_eqE (sl' := [(52, .q a0_0 (Int.toNat (w64 (s37.1 - 1)) * 1)), (50, vi x72), (0, .v (.slice a0_0 l85.length c0_0)), (1, vi s21.2.2.1), (2, vi s21.2.2.2), (3, .v (.func (.func 35) #[] #[.pointer (some ⟨g3_0, 0, none⟩), .pointer (some ⟨g3_1, 0, none⟩), .pointer (some ⟨g3_2, 0, none⟩)])), (8, vi s21.1), (9, vi s37.1)]) (bx' := []) (by simp only [hl88]) rfl ?_
               refine gn hm [0, 1, 2, 3, 8, 9] [] ?_
               exact hd () [0, 1, 2, 3, 8, 9] [0] 0
             · refine hi (fun γ0 δ hm => ?_)
               refine JG_index (by kernel_rfl) (d := a0_0) (m := s37.2.length) (j := s37.1) (s := 1) (by kernel_rfl) (fun w hs => (hs.view 0 rfl)) rfl hx73 rfl ?_
               refine gn hm [49, 45, 41, 39, 38, 37, 0, 1, 2, 3, 8, 9] [] ?_
               refine ha2 9 13 ?_ ?_
               · refine hi (fun γ0 δ hm => ?_)
                 refine JG_loadq (by kernel_rfl) (t := 3) (d := a0_0) (Int.toNat (w64 (s37.1 - 1)) * 1) 0 (by kernel_rfl) (cs := [.int .i64 x69]) (v := .int .i64 x69) (fun w hs => (hs.view 0 rfl).flatq hx70) (by kernel_rfl) rfl ?_
                 refine gn hm [46, 49, 41, 39, 38, 37, 0, 1, 2, 3, 8, 9] [] ?_
                 refine ha1 13 ?_
                 refine hi (fun γ0 δ hm => ?_)
                 refine JG_loadq (by kernel_rfl) (t := 3) (d := a0_0) (Int.toNat s37.1 * 1) 0 (by kernel_rfl) (cs := [.int .i64 x72]) (v := .int .i64 x72) (fun w hs => (hs.view 0 rfl).flatq hx73) (by kernel_rfl) rfl ?_
                 refine gn hm [50, 46, 41, 39, 38, 37, 0, 1, 2, 3, 8, 9] [] ?_
                 refine ha1 14 ?_
                 refine hi (fun γ0 δ hm => ?_)
                 refine JG_index (by kernel_rfl) (d := a0_0) (m := s37.2.length) (j := s37.1) (s := 1) (by kernel_rfl) (fun w hs => (hs.view 0 rfl)) rfl hx76 rfl ?_
                 refine gn hm [51, 50, 46, 41, 39, 0, 1, 2, 3, 8, 9] [] ?_
                 refine ha1 15 ?_
                 refine hi (fun γ0 δ hm => ?_)
                 refine JG_storeq (α := Int) (d := a0_0) (vs := [.int .i64 x69]) (j := s37.1) (x' := x69) (by kernel_rfl) 0 (by kernel_rfl) hx76 (Rc := []) (Rr := []) rfl (by kernel_rfl) (fun w c F Fs ho _ _ => own_flat_set (by kernel_rfl) ho) hm79 (sl' := [(51, .q a0_0 (Int.toNat s37.1 * 1)), (50, vi x72), (46, vi x69), (41, vi (w64 (s37.1 - 1))), (39, .v (.slice a0_0 s37.2.length c0_0)), (0, .v (.slice a0_0 s37.2.length c0_0)), (1, vi s21.2.2.1), (2, vi s21.2.2.2), (3, .v (.func (.func 35) #[] #[.pointer (some ⟨g3_0, 0, none⟩), .pointer (some ⟨g3_1, 0, none⟩), .pointer (some ⟨g3_2, 0, none⟩)])), (8, vi s21.1), (9, vi s37.1)]) (by kernel_rfl) ?_
                 refine KG_eqE (sl' := [(51, .q a0_0 (Int.toNat s37.1 * 1)), (50, vi x72), (46, vi x69), (41, vi (w64 (s37.1 - 1))), (39, .v (.slice a0_0 l78.length c0_0)), (0, .v (.slice a0_0 l78.length c0_0)), (1, vi s21.2.2.1), (2, vi s21.2.2.2), (3, .v (.func (.func 35) #[] #[.pointer (some ⟨g3_0, 0, none⟩), .pointer (some ⟨g3_1, 0, none⟩), .pointer (some ⟨g3_2, 0, none⟩)])), (8, vi s21.1), (9, vi s37.1)]) (bx' := []) (by simp only [hl81]) rfl ?_
                 refine gn hm [50, 41, 39, 0, 1, 2, 3, 8, 9] [] ?_
                 refine ha1 16 ?_
                 refine hi (fun γ0 δ hm => ?_)
                 refine JG_index (by kernel_rfl) (d := a0_0) (m := l78.length) (j := (w64 (s37.1 - 1))) (s := 1) (by kernel_rfl) (fun w hs => (hs.view 0 rfl)) rfl hx83 rfl ?_
                 refine gn hm [52, 50, 0, 1, 2, 3, 8, 9] [] ?_
                 refine ha1 17 ?_
                 refine hi (fun γ0 δ hm => ?_)
                 refine JG_storeq (α := Int) (d := a0_0) (vs := [.int .i64 x72]) (j := (w64 (s37.1 - 1))) (x' := x72) (by kernel_rfl) 0 (by kernel_rfl) hx83 (Rc := []) (Rr := []) rfl (by kernel_rfl) (fun w c F Fs ho _ _ => own_flat_set (by kernel_rfl) ho) hm86 (sl' := [(52, .q a0_0 (Int.toNat (w64 (s37.1 - 1)) * 1)), (50, vi x72), (0, .v (.slice a0_0 l78.length c0_0)), (1, vi s21.2.2.1), (2, vi s21.2.2.2), (3, .v (.func (.func 35) #[] #[.pointer (some ⟨g3_0, 0, none⟩), .pointer (some ⟨g3_1, 0, none⟩), .pointer (some ⟨g3_2, 0, none⟩)])), (8, vi s21.1), (9, vi s37.1)]) (by kernel_rfl) ?_
                 refine KG_eqE (sl' := [(52, .q a0_0 (Int.toNat (w64 (s37.1 - 1)) * 1)), (50, vi x72), (0, .v (.slice a0_0 l85.length c0_0)), (1, vi s21.2.2.1), (2, vi s21.2.2.2), (3, .v (.func (.func 35) #[] #[.pointer (some ⟨g3_0, 0, none⟩), .pointer (some ⟨g3_1, 0, none⟩), .pointer (some ⟨g3_2, 0, none⟩)])), (8, vi s21.1), (9, vi s37.1)]) (bx' := []) (by simp only [hl88]) rfl ?_
                 refine gn hm [0, 1, 2, 3, 8, 9] [] ?_
                 exact hd () [0, 1, 2, 3, 8, 9] [0] 0
               · refine hi (fun γ0 δ hm => ?_)
                 refine JG_loadq (by kernel_rfl) (t := 3) (d := a0_0) (Int.toNat s37.1 * 1) 0 (by kernel_rfl) (cs := [.int .i64 x72]) (v := .int .i64 x72) (fun w hs => (hs.view 0 rfl).flatq hx73) (by kernel_rfl) rfl ?_
                 refine gn hm [50, 45, 41, 39, 38, 37, 0, 1, 2, 3, 8, 9] [] ?_
                 refine ha1 9 ?_
                 refine hi (fun γ0 δ hm => ?_)
                 refine JG_loadq (by kernel_rfl) (t := 3) (d := a0_0) (Int.toNat (w64 (s37.1 - 1)) * 1) 0 (by kernel_rfl) (cs := [.int .i64 x69]) (v := .int .i64 x69) (fun w hs => (hs.view 0 rfl).flatq hx70) (by kernel_rfl) rfl ?_
                 refine gn hm [46, 50, 41, 39, 38, 37, 0, 1, 2, 3, 8, 9] [] ?_
                 refine ha1 14 ?_
                 refine hi (fun γ0 δ hm => ?_)
                 refine JG_index (by kernel_rfl) (d := a0_0) (m := s37.2.length) (j := s37.1) (s := 1) (by kernel_rfl) (fun w hs => (hs.view 0 rfl)) rfl hx76 rfl ?_
                 refine gn hm [51, 46, 50, 41, 39, 0, 1, 2, 3, 8, 9] [] ?_
                 refine ha1 15 ?_
                 refine hi (fun γ0 δ hm => ?_)
                 refine JG_storeq (α := Int) (d := a0_0) (vs := [.int .i64 x69]) (j := s37.1) (x' := x69) (by kernel_rfl) 0 (by kernel_rfl) hx76 (Rc := []) (Rr := []) rfl (by kernel_rfl) (fun w c F Fs ho _ _ => own_flat_set (by kernel_rfl) ho) hm79 (sl' := [(51, .q a0_0 (Int.toNat s37.1 * 1)), (46, vi x69), (50, vi x72), (41, vi (w64 (s37.1 - 1))), (39, .v (.slice a0_0 s37.2.length c0_0)), (0, .v (.slice a0_0 s37.2.length c0_0)), (1, vi s21.2.2.1), (2, vi s21.2.2.2), (3, .v (.func (.func 35) #[] #[.pointer (some ⟨g3_0, 0, none⟩), .pointer (some ⟨g3_1, 0, none⟩), .pointer (some ⟨g3_2, 0, none⟩)])), (8, vi s21.1), (9, vi s37.1)]) (by kernel_rfl) ?_
                 refine KG_eqE (sl' := [(51, .q a0_0 (Int.toNat s37.1 * 1)), (46, vi x69), (50, vi x72), (41, vi (w64 (s37.1 - 1))), (39, .v (.slice a0_0 l78.length c0_0)), (0, .v (.slice a0_0 l78.length c0_0)), (1, vi s21.2.2.1), (2, vi s21.2.2.2), (3, .v (.func (.func 35) #[] #[.pointer (some ⟨g3_0, 0, none⟩), .pointer (some ⟨g3_1, 0, none⟩), .pointer (some ⟨g3_2, 0, none⟩)])), (8, vi s21.1), (9, vi s37.1)]) (bx' := []) (by simp only [hl81]) rfl ?_
                 refine gn hm [50, 41, 39, 0, 1, 2, 3, 8, 9] [] ?_
                 refine ha1 16 ?_
                 refine hi (fun γ0 δ hm => ?_)
                 refine JG_index (by kernel_rfl) (d := a0_0) (m := l78.length) (j := (w64 (s37.1 - 1))) (s := 1) (by kernel_rfl) (fun w hs => (hs.view 0 rfl)) rfl hx83 rfl ?_
                 refine gn hm [52, 50, 0, 1, 2, 3, 8, 9] [] ?_
                 refine ha1 17 ?_
                 refine hi (fun γ0 δ hm => ?_)
                 refine JG_storeq (α := Int) (d := a0_0) (vs := [.int .i64 x72]) (j := (w64 (s37.1 - 1))) (x' := x72) (by kernel_rfl) 0 (by kernel_rfl) hx83 (Rc := []) (Rr := []) rfl (by kernel_rfl) (fun w c F Fs ho _ _ => own_flat_set (by kernel_rfl) ho) hm86 (sl' := [(52, .q a0_0 (Int.toNat (w64 (s37.1 - 1)) * 1)), (50, vi x72), (0, .v (.slice a0_0 l78.length c0_0)), (1, vi s21.2.2.1), (2, vi s21.2.2.2), (3, .v (.func (.func 35) #[] #[.pointer (some ⟨g3_0, 0, none⟩), .pointer (some ⟨g3_1, 0, none⟩), .pointer (some ⟨g3_2, 0, none⟩)])), (8, vi s21.1), (9, vi s37.1)]) (by kernel_rfl) ?_
                 refine KG_eqE (sl' := [(52, .q a0_0 (Int.toNat (w64 (s37.1 - 1)) * 1)), (50, vi x72), (0, .v (.slice a0_0 l85.length c0_0)), (1, vi s21.2.2.1), (2, vi s21.2.2.2), (3, .v (.func (.func 35) #[] #[.pointer (some ⟨g3_0, 0, none⟩), .pointer (some ⟨g3_1, 0, none⟩), .pointer (some ⟨g3_2, 0, none⟩)])), (8, vi s21.1), (9, vi s37.1)]) (bx' := []) (by simp only [hl88]) rfl ?_
                 refine gn hm [0, 1, 2, 3, 8, 9] [] ?_
                 exact hd () [0, 1, 2, 3, 8, 9] [0] 0
           · refine hi (fun γ0 δ hm => ?_)
             refine JG_index (by kernel_rfl) (d := a0_0) (m := s37.2.length) (j := s37.1) (s := 1) (by kernel_rfl) (fun w hs => (hs.view 0 rfl)) rfl hx73 rfl ?_
             refine gn hm [49, 44, 42, 41, 39, 38, 37, 0, 1, 2, 3, 8, 9] [] ?_
             refine ha2 8 13 ?_ ?_
             · refine hi (fun γ0 δ hm => ?_)
               refine JG_index (by kernel_rfl) (d := a0_0) (m := s37.2.length) (j := (w64 (s37.1 - 1))) (s := 1) (by kernel_rfl) (fun w hs => (hs.view 0 rfl)) rfl hx70 rfl ?_
               refine gn hm [45, 49, 41, 39, 38, 37, 0, 1, 2, 3, 8, 9] [] ?_
               refine ha2 9 13 ?_ ?_
               · refine hi (fun γ0 δ hm => ?_)
                 refine JG_loadq (by kernel_rfl) (t := 3) (d := a0_0) (Int.toNat (w64 (s37.1 - 1)) * 1) 0 (by kernel_rfl) (cs := [.int .i64 x69]) (v := .int .i64 x69) (fun w hs => (hs.view 0 rfl).flatq hx70) (by kernel_rfl) rfl ?_
                 refine gn hm [46, 49, 41, 39, 38, 37, 0, 1, 2, 3, 8, 9] [] ?_
                 refine ha1 13 ?_
                 refine hi (fun γ0 δ hm => ?_)
                 refine JG_loadq (by kernel_rfl) (t := 3) (d := a0_0) (Int.toNat s37.1 * 1) 0 (by kernel_rfl) (cs := [.int .i64 x72]) (v := .int .i64 x72) (fun w hs => (hs.view 0 rfl).flatq hx73) (by kernel_rfl) rfl ?_
                 refine gn hm [50, 46, 41, 39, 38, 37, 0, 1, 2, 3, 8, 9] [] ?_
                 refine ha1 14 ?_
                 refine hi (fun γ0 δ hm => ?_)
                 refine JG_index (by kernel_rfl) (d := a0_0) (m := s37.2.length) (j := s37.1) (s := 1) (by kernel_rfl) (fun w hs => (hs.view 0 rfl)) rfl hx76 rfl ?_
                 refine gn hm [51, 50, 46, 41, 39, 0, 1, 2, 3, 8, 9] [] ?_
                 refine ha1 15 ?_
                 refine hi (fun γ0 δ hm => ?_)
                 refine JG_storeq (α := Int) (d := a0_0) (vs := [.int .i64 x69]) (j := s37.1) (x' := x69) (by kernel_rfl) 0 (by kernel_rfl) hx76 (Rc := []) (Rr := []) rfl (by kernel_rfl) (fun w c F Fs ho _ _ => own_flat_set (by kernel_rfl) ho) hm79 (sl' := [(51, .q a0_0 (Int.toNat s37.1 * 1)), (50, vi x72), (46, vi x69), (41, vi (w64 (s37.1 - 1))), (39, .v (.slice a0_0 s37.2.length c0_0)), (0, .v (.slice a0_0 s37.2.length c0_0)), (1, vi s21.2.2.1), (2, vi s21.2.2.2), (3, .v (.func (.func 35) #[] #[.pointer (some ⟨g3_0, 0, none⟩), .pointer (some ⟨g3_1, 0, none⟩), .pointer (some ⟨g3_2, 0, none⟩)])), (8, vi s21.1), (9, vi s37.1)]) (by kernel_rfl) ?_
                 refine KG_eqE (sl' := [(51, .q a0_0 (Int.toNat s37.1 * 1)), (50, vi x72), (46, vi x69), (41, vi (w64 (s37.1 - 1))), (39, .v (.slice a0_0 l78.length c0_0)), (0, .v (.slice a0_0 l78.length c0_0)), (1, vi s21.2.2.1), (2, vi s21.2.2.2), (3, .v (.func (.func 35) #[] #[.pointer (some ⟨g3_0, 0, none⟩), .pointer (some ⟨g3_1, 0, none⟩), .pointer (some ⟨g3_2, 0, none⟩)])), (8, vi s21.1), (9, vi s37.1)]) (bx' := []) (by simp only [hl81]) rfl ?_
                 refine gn hm [50, 41, 39, 0, 1, 2, 3, 8, 9] [] ?_
                 refine ha1 16 ?_
                 refine hi (fun γ0 δ hm => ?_)
                 refine JG_index (by kernel_rfl) (d := a0_0) (m := l78.length) (j := (w64 (s37.1 - 1))) (s := 1) (by kernel_rfl) (fun w hs => (hs.view 0 rfl)) rfl hx83 rfl ?_
                 refine gn hm [52, 50, 0, 1, 2, 3, 8, 9] [] ?_
                 refine ha1 17 ?_
                 refine hi (fun γ0 δ hm => ?_)
                 refine JG_storeq (α := Int) (d := a0_0) (vs := [.int .i64 x72]) (j := (w64 (s37.1 - 1))) (x' := x72) (by kernel_rfl) 0 (by kernel_rfl) hx83 (Rc := []) (Rr := []) rfl (by kernel_rfl) (fun w c F Fs ho _ _ => own_flat_set (by kernel_rfl) ho) hm86 (sl' := [(52, .q a0_0 (Int.toNat (w64 (s37.1 - 1)) * 1)), (50, vi x72), (0, .v (.slice a0_0 l78.length c0_0)), (1, vi s21.2.2.1), (2, vi s21.2.2.2), (3, .v (.func (.func 35) #[] #[.pointer (some ⟨g3_0, 0, none⟩), .pointer (some ⟨g3_1, 0, none⟩), .pointer (some ⟨g3_2, 0, none⟩)])), (8, vi s21.1), (9, vi s37.1)]) (by kernel_rfl) ?_
                 refine KG_eqE (sl' := [(52, .q a0_0 (Int.toNat (w64 (s37.1 - 1)) * 1)), (50, vi x72), (0, .v (.slice a0_0 l85.length c0_0)), (1, vi s21.2.2.1), (2, vi s21.2.2.2), (3, .v (.func (.func 35) #[] #[.pointer (some ⟨g3_0, 0, none⟩), .pointer (some ⟨g3_1, 0, none⟩), .pointer (some ⟨g3_2, 0, none⟩)])), (8, vi s21.1), (9, vi s37.1)]) (bx' := []) (by simp only [hl88]) rfl ?_
                 refine gn hm [0, 1, 2, 3, 8, 9] [] ?_
                 exact hd () [0, 1, 2, 3, 8, 9] [0] 0
               · refine hi (fun γ0 δ hm => ?_)
                 refine JG_loadq (by kernel_rfl) (t := 3) (d := a0_0) (Int.toNat s37.1 * 1) 0 (by kernel_rfl) (cs := [.int .i64 x72]) (v := .int .i64 x72) (fun w hs => (hs.view 0 rfl).flatq hx73) (by kernel_rfl) rfl ?_
                 refine gn hm [50, 45, 41, 39, 38, 37, 0, 1, 2, 3, 8, 9] [] ?_
                 refine ha1 9 ?_
                 refine hi (fun γ0 δ hm => ?_)
                 refine JG_loadq (by kernel_rfl) (t := 3) (d := a0_0) (Int.toNat (w64 (s37.1 - 1)) * 1) 0 (by kernel_rfl) (cs := [.int .i64 x69]) (v := .int .i64 x69) (fun w hs => (hs.view 0 rfl).flatq hx70) (by kernel_rfl) rfl ?_
                 refine gn hm [46, 50, 41, 39, 38, 37, 0, 1, 2, 3, 8, 9] [] ?_
                 refine ha1 14 ?_
                 refine hi (fun γ0 δ hm => ?_)
                 refine JG_index (by kernel_rfl) (d := a0_0) (m := s37.2.length) (j := s37.1) (s := 1) (by kernel_rfl) (fun w hs => (hs.view 0 rfl)) rfl hx76 rfl ?_
                 refine gn hm [51, 46, 50, 41, 39, 0, 1, 2, 3, 8, 9] [] ?_
                 refine ha1 15 ?_
                 refine hi (fun γ0 δ hm => ?_)
                 refine JG_storeq (α := Int) (d := a0_0) (vs := [.int .i64 x69]) (j := s37.1) (x' := x69) (by kernel_rfl) 0 (by kernel_rfl) hx76 (Rc := []) (Rr := []) rfl (by kernel_rfl) (fun w c F Fs ho _ _ => own_flat_set (by kernel_rfl) ho) hm79 (sl' := [(51, .q a0_0 (Int.toNat s37.1 * 1)), (46, vi x69), (50, vi x72), (41, vi (w64 (s37.1 - 1))), (39, .v (.slice a0_0 s37.2.length c0_0)), (0, .v (.slice a0_0 s37.2.length c0_0)), (1, vi s21.2.2.1), (2, vi s21.2.2.2), (3, .v (.func (.func 35) #[] #[.pointer (some ⟨g3_0, 0, none⟩), .pointer (some ⟨g3_1, 0, none⟩), .pointer (some ⟨g3_2, 0, none⟩)])), (8, vi s21.1), (9, vi s37.1)]) (by kernel_rfl) ?_
                 refine KG_eqE (sl' := [(51, .q a0_0 (Int.toNat s37.1 * 1)), (46, vi x69), (50, vi x72), (41, vi (w64 (s37.1 - 1))), (39, .v (.slice a0_0 l78.length c0_0)), (0, .v (.slice a0_0 l78.length c0_0)), (1, vi s21.2.2.1), (2, vi s21.2.2.2), (3, .v (.func (.func 35) #[] #[.pointer (some ⟨g3_0, 0, none⟩), .pointer (some ⟨g3_1, 0, none⟩), .pointer (some ⟨g3_2, 0, none⟩)])), (8, vi s21.1), (9, vi s37.1)]) (bx' := []) (by simp only [hl81]) rfl ?_
                 refine gn hm [50, 41, 39, 0, 1, 2, 3, 8, 9] [] ?_
                 refine ha1 16 ?_
                 refine hi (fun γ0 δ hm => ?_)
                 refine JG_index (by kernel_rfl) (d := a0_0) (m := l78.length) (j := (w64 (s37.1 - 1))) (s := 1) (by kernel_rfl) (fun w hs => (hs.view 0 rfl)) rfl hx83 rfl ?_
                 refine gn hm [52, 50, 0, 1, 2, 3, 8, 9] [] ?_
                 refine ha1 17 ?_
                 refine hi (fun γ0 δ hm => ?_)
                 refine JG_storeq (α := Int) (d := a0_0) (vs := [.int .i64 x72]) (j := (w64 (s37.1 - 1))) (x' := x72) (by kernel_rfl) 0 (by kernel_rfl) hx83 (Rc := []) (Rr := []) rfl (by kernel_rfl) (fun w c F Fs ho _ _ => own_flat_set (by kernel_rfl) ho) hm86 (sl' := [(52, .q a0_0 (Int.toNat (w64 (s37.1 - 1)) * 1)), (50, vi x72), (0, .v (.slice a0_0 l78.length c0_0)), (1, vi s21.2.2.1), (2, vi s21.2.2.2), (3, .v (.func (.func 35) #[] #[.pointer (some ⟨g3_0, 0, none⟩), .pointer (some ⟨g3_1, 0, none⟩), .pointer (some ⟨g3_2, 0, none⟩)])), (8, vi s21.1), (9, vi s37.1)]) (by kernel_rfl) ?_
                 refine KG_eqE (sl' := [(52, .q a0_0 (Int.toNat (w64 (s37.1 - 1)) * 1)), (50, vi x72), (0, .v (.slice a0_0 l85.length c0_0)), (1, vi s21.2.2.1), (2, vi s21.2.2.2), (3, .v (.func (.func 35) #[] #[.pointer (some ⟨g3_0, 0, none⟩), .pointer (some ⟨g3_1, 0, none⟩), .pointer (some ⟨g3_2, 0, none⟩)])), (8, vi s21.1), (9, vi s37.1)]) (bx' := []) (by simp only [hl88]) rfl ?_
                 refine gn hm [0, 1, 2, 3, 8, 9] [] ?_
                 exact hd () [0, 1, 2, 3, 8, 9] [0] 0
             · refine hi (fun γ0 δ hm => ?_)
               refine JG_loadq (by kernel_rfl) (t := 3) (d := a0_0) (Int.toNat s37.1 * 1) 0 (by kernel_rfl) (cs := [.int .i64 x72]) (v := .int .i64 x72) (fun w hs => (hs.view 0 rfl).flatq hx73) (by kernel_rfl) rfl ?_
               refine gn hm [50, 44, 42, 41, 39, 38, 37, 0, 1, 2, 3, 8, 9] [] ?_
               refine ha1 8 ?_
               refine hi (fun γ0 δ hm => ?_)
               refine JG_index (by kernel_rfl) (d := a0_0) (m := s37.2.length) (j := (w64 (s37.1 - 1))) (s := 1) (by kernel_rfl) (fun w hs => (hs.view 0 rfl)) rfl hx70 rfl ?_
               refine gn hm [45, 50, 41, 39, 38, 37, 0, 1, 2, 3, 8, 9] [] ?_
               refine ha1 9 ?_
               refine hi (fun γ0 δ hm => ?_)
               refine JG_loadq (by kernel_rfl) (t := 3) (d := a0_0) (Int.toNat (w64 (s37.1 - 1)) * 1) 0 (by kernel_rfl) (cs := [.int .i64 x69]) (v := .int .i64 x69) (fun w hs => (hs.view 0 rfl).flatq hx70) (by kernel_rfl) rfl ?_
               refine gn hm [46, 50, 41, 39, 38, 37, 0, 1, 2, 3, 8, 9] [] ?_
               refine ha1 14 ?_
               refine hi (fun γ0 δ hm => ?_)
               refine JG_index (by kernel_rfl) (d := a0_0) (m := s37.2.length) (j := s37.1) (s := 1) (by kernel_rfl) (fun w hs => (hs.view 0 rfl)) rfl hx76 rfl ?_
               refine gn hm [51, 46, 50, 41, 39, 0, 1, 2, 3, 8, 9] [] ?_
               refine ha1 15 ?_
               refine hi (fun γ0 δ hm => ?_)
               refine JG_storeq (α := Int) (d := a0_0) (vs := [.int .i64 x69]) (j := s37.1) (x' := x69) (by kernel_rfl) 0 (by kernel_rfl) hx76 (Rc := []) (Rr := []) rfl (by kernel_rfl) (fun w c F Fs ho _ _ => own_flat_set (by kernel_rfl) ho) hm79 (sl' := [(51, .q a0_0 (Int.toNat s37.1 * 1)), (46, vi x69), (50, vi x72), (41, vi (w64 (s37.1 - 1))), (39, .v (.slice a0_0 s37.2.length c0_0)), (0, .v (.slice a0_0 s37.2.length c0_0)), (1, vi s21.2.2.1), (2, vi s21.2.2.2), (3, .v (.func (.func 35) #[] #[.pointer (some ⟨g3_0, 0, none⟩), .pointer (some ⟨g3_1, 0, none⟩), .pointer (some ⟨g3_2, 0, none⟩)])), (8, vi s21.1), (9, vi s37.1)]) (by kernel_rfl) ?_
               refine KG_eqE (sl' := [(51, .q a0_0 (Int.toNat s37.1 * 1)), (46, vi x69), (50, vi x72), (41, vi (w64 (s37.1 - 1))), (39, .v (.slice a0_0 l78.length c0_0)), (0, .v (.slice a0_0 l78.length c0_0)), (1, vi s21.2.2.1), (2, vi s21.2.2.2), (3, .v (.func (.func 35) #[] #[.pointer (some ⟨g3_0, 0, none⟩), .pointer (some ⟨g3_1, 0, none⟩), .pointer (some ⟨g3_2, 0, none⟩)])), (8, vi s21.1), (9, vi s37.1)]) (bx' := []) (by simp only [hl81]) rfl ?_
               refine gn hm [50, 41, 39, 0, 1, 2, 3, 8, 9] [] ?_
               refine ha1 16 ?_
               refine hi (fun γ0 δ hm => ?_)
               refine JG_index (by kernel_rfl) (d := a0_0) (m := l78.length) (j := (w64 (s37.1 - 1))) (s := 1) (by kernel_rfl) (fun w hs => (hs.view 0 rfl)) rfl hx83 rfl ?_
               refine gn hm [52, 50, 0, 1, 2, 3, 8, 9] [] ?_
               refine ha1 17 ?_
               refine hi (fun γ0 δ hm => ?_)
               refine JG_storeq (α := Int) (d := a0_0) (vs := [.int .i64 x72]) (j := (w64 (s37.1 - 1))) (x' := x72) (by kernel_rfl) 0 (by kernel_rfl) hx83 (Rc := []) (Rr := []) rfl (by kernel_rfl) (fun w c F Fs ho _ _ => own_flat_set (by kernel_rfl) ho) hm86 (sl' := [(52, .q a0_0 (Int.toNat (w64 (s37.1 - 1)) * 1)), (50, vi x72), (0, .v (.slice a0_0 l78.length c0_0)), (1, vi s21.2.2.1), (2, vi s21.2.2.2), (3, .v (.func (.func 35) #[] #[.pointer (some ⟨g3_0, 0, none⟩), .pointer (some ⟨g3_1, 0, none⟩), .pointer (some ⟨g3_2, 0, none⟩)])), (8, vi s21.1), (9, vi s37.1)]) (by kernel_rfl) ?_
               refine KG_eqE (sl' := [(52, .q a0_0 (Int.toNat (w64 (s37.1 - 1)) * 1)), (50, vi x72), (0, .v (.slice a0_0 l85.length c0_0)), (1, vi s21.2.2.1), (2, vi s21.2.2.2), (3, .v (.func (.func 35) #[] #[.pointer (some ⟨g3_0, 0, none⟩), .pointer (some ⟨g3_1, 0, none⟩), .pointer (some ⟨g3_2, 0, none⟩)])), (8, vi s21.1), (9, vi s37.1)]) (bx' := []) (by simp only [hl88]) rfl ?_
               refine gn hm [0, 1, 2, 3, 8, 9] [] ?_
               exact hd () [0, 1, 2, 3, 8, 9] [0] 0
         refine bn (nt (qr (oN 3 [(9, vi (w64 (s37.1 - 1)))] [0, 1, 2, 3, 8] ?_)))
         exact oe (ct h87 () [9, 8, 0, 1, 2, 3] [0] 0)
       refine qx (nx (nx (bh ?_)))
       have h90 := leafB hd46 h68 h42
       exact mp ((s21.1, s37.2, s21.2.2.1, s21.2.2.2), ()) h90 [8, 0, 1, 2, 3] [0] 0
     have h49 := (congrFun hk44 _).symm.trans h49p
     refine bn (nt (qr (oN 3 [(8, vi (w64 (y48.1.1 + 1)))] [0, 1, 2, 3] ?_)))
     exact oe (ct h49 () [8, 0, 1, 2, 3] [0] 0)
   refine qx (nx (nx (bh ?_)))
   have h91 := leafB hd30 h36 h26
   exact mp (s21.2.1, ()) h91 [0, 3] [0] 0
 have h33 := (congrFun hk28 _).symm.trans h33p
 refine JE_fall (vs := []) (by kernel_rfl) (fun γ w hs => ?_)
 rw [← sI h33]
 exact hs.turned (is := [0]) rfl

theorem c_slices_swapRangeCmpFunc_int__impl_Allocate_1 {W : World} {x0 : List Int} {a0_0 : Option Addr} {c0_0 : Nat} {e0_0 : TypeId} {x1 : Int} {x2 : Int} {x3 : Int} {g4_0 : Nat} {z4_0 : Int} {g4_1 : Nat} {z4_1 : List Int} {g4_2 : Nat} {z4_2 : Int} {r : (List Int)} (h : slices_swapRangeCmpFunc_int__impl_Allocate_1 x0 x1 x2 x3 z4_0 z4_1 z4_2 = some r)  :
    GivesMQ Try.prog (fun w => ∀ (q0 : Int) (q1 : Int) (r : Int), impl_Allocate_1 q0 q1 z4_0 z4_1 z4_2 = some r → Gives0 Try.prog 35 #[.int .i64 q0, .int .i64 q1, .pointer (some ⟨g4_0, 0, none⟩), .pointer (some ⟨g4_1, 0, none⟩), .pointer (some ⟨g4_2, 0, none⟩)] w (.int .i64 r)) 46 #[.slice a0_0 x0.length c0_0, .int .i64 x1, .int .i64 x2, .int .i64 x3, .func (.func 35) #[] #[.pointer (some ⟨g4_0, 0, none⟩), .pointer (some ⟨g4_1, 0, none⟩), .pointer (some ⟨g4_2, 0, none⟩)]] W [SlRes e0_0 x0 a0_0 c0_0] [SlRes e0_0 r a0_0 c0_0] (.tuple #[]) := by
 unfold slices_swapRangeCmpFunc_int__impl_Allocate_1 at h
 refine enterMQ [.v (.slice a0_0 x0.length c0_0), vi x1, vi x2, vi x3, .v (.func (.func 35) #[] #[.pointer (some ⟨g4_0, 0, none⟩), .pointer (some ⟨g4_1, 0, none⟩), .pointer (some ⟨g4_2, 0, none⟩)])] (args := [.slice a0_0 x0.length c0_0, .int .i64 x1, .int .i64 x2, .int .i64 x3, .func (.func 35) #[] #[.pointer (some ⟨g4_0, 0, none⟩), .pointer (some ⟨g4_1, 0, none⟩), .pointer (some ⟨g4_2, 0, none⟩)]]) (by kernel_rfl) (by kernel_rfl) Try.func46 rfl Try.ntmps46 (by kernel_rfl) (fun Fs hq => ?_)
 refine qs (qr (oN 1 [(10, vi 0)] [0, 1, 2, 3, 4] ?_))
 refine oe (nt ?_)
 obtain ⟨r24, hL25, h26⟩ := bS h
 obtain ⟨k27, hk28, h26⟩ := brkS h26
 refine JC_cutP (τ := ((List Int)) × (Unit)) (fun y => k27 y.1 = some r) (fun y32 => [(0, .v (.slice a0_0 y32.1.length c0_0)), (4, .v (.func (.func 35) #[] #[.pointer (some ⟨g4_0, 0, none⟩), .pointer (some ⟨g4_1, 0, none⟩), .pointer (some ⟨g4_2, 0, none⟩)]))]) (fun y32 => []) (fun y32 => [SlRes e0_0 y32.1 a0_0 c0_0]) ?_ (fun y32 h33p => ?_)
 · refine qb (lp Unit hL25 (fun s21 y22 => [(10, vi s21.1), (0, .v (.slice a0_0 s21.2.length c0_0)), (1, vi x1), (2, vi x2), (3, vi x3), (4, .v (.func (.func 35) #[] #[.pointer (some ⟨g4_0, 0, none⟩), .pointer (some ⟨g4_1, 0, none⟩), .pointer (some ⟨g4_2, 0, none⟩)]))]) (fun s21 y22 => []) (fun s21 y22 => [SlRes e0_0 s21.2 a0_0 c0_0]) () [10, 0, 1, 2, 3, 4] [0] 0 (fun s21 y22 t23 h29 hd30 => ?_))
   refine qs (qs (qr (oN 3 [(13, vb (decide (s21.1 < x3)))] [10, 0, 1, 2, 3, 4] ?_)))
   refine oe (nt (cC h29 (fun h35 => ?_) (fun h36 => ?_)))
   · refine qk (nt (qs (qb ?_)))
     obtain ⟨x37, hx38, h39⟩ := bS h35
     obtain ⟨x40, hx41, h42⟩ := bS h39
     obtain ⟨x43, hx44, h45⟩ := bS h42
     obtain ⟨l46, hm47, h48⟩ := bS h45
     replace hm47 := (sI hm47).symm
     have hl49 := len_set hm47
     obtain ⟨x50, hx51, h52⟩ := bS h48
     obtain ⟨l53, hm54, h55⟩ := bS h52
     replace hm54 := (sI hm54).symm
     have hl56 := len_set hm54
     refine JC_cut (τ := Unit) (fun _ => [(10, vi s21.1), (0, .v (.slice a0_0 l53.length c0_0)), (1, vi x1), (2, vi x2), (3, vi x3), (4, .v (.func (.func 35) #[] #[.pointer (some ⟨g4_0, 0, none⟩), .pointer (some ⟨g4_1, 0, none⟩), .pointer (some ⟨g4_2, 0, none⟩)]))]) (fun _ => []) (fun _ => [SlRes e0_0 l53 a0_0 c0_0]) ?_ (fun _ => ?_)
     · refine jw [10, 0, 1, 2, 3, 4] [0] ?_
       refine JC_heldN (ks := []) (Rk := []) 24 (by kernel_rfl) (by kernel_rfl) ?_
       refine htq 0 (.v (.slice a0_0 s21.2.length c0_0)) [] ?_
       refine htq 1 (vi x1) [] ?_
       refine htq 2 (vi s21.1) [] ?_
       refine htq 3 (vi (w64 (x1 + s21.1))) [] ?_
       refine hk [19, 16, 10, 0, 1, 2, 3, 4] ?_
       refine htq 4 (.v (.slice a0_0 s21.2.length c0_0)) [] ?_
       refine htq 5 (vi x2) [] ?_
       refine htq 6 (vi s21.1) [] ?_
       refine htq 7 (vi (w64 (x2 + s21.1))) [] ?_
       refine hk [23, 20, 19, 16, 10, 0, 1, 2, 3, 4] ?_
       refine htq 8 (.v (.slice a0_0 s21.2.length c0_0)) [] ?_
       refine htq 9 (vi x2) [] ?_
       refine htq 10 (vi s21.1) [] ?_
       refine htq 11 (vi (w64 (x2 + s21.1))) [] ?_
       refine hk [27, 24, 23, 20, 19, 16, 10, 0, 1, 2, 3, 4] ?_
       refine htq 14 (.v (.slice a0_0 s21.2.length c0_0)) [] ?_
       refine htq 15 (vi x1) [] ?_
       refine htq 16 (vi s21.1) [] ?_
       refine htq 17 (vi (w64 (x1 + s21.1))) [] ?_
       refine hk [33, 30, 27, 24, 23, 20, 19, 16, 10, 0, 1, 2, 3, 4] ?_
       refine ha2 12 18 ?_ ?_
       · refine hi (fun γ0 δ hm => ?_)
         refine JG_index (by kernel_rfl) (d := a0_0) (m := s21.2.length) (j := (w64 (x2 + s21.1))) (s := 1) (by kernel_rfl) (fun w hs => (hs.view 0 rfl)) rfl hx38 rfl ?_
         refine gn hm [28, 33, 30, 23, 20, 19, 16, 10, 0, 1, 2, 3, 4] [] ?_
         refine ha2 13 18 ?_ ?_
         · refine hi (fun γ0 δ hm => ?_)
           refine JG_loadq (by kernel_rfl) (t := 3) (d := a0_0) (Int.toNat (w64 (x2 + s21.1)) * 1) 0 (by kernel_rfl) (cs := [.int .i64 x37]) (v := .int .i64 x37) (fun w hs => (hs.view 0 rfl).flatq hx38) (by kernel_rfl) rfl ?_
           refine gn hm [29, 33, 30, 23, 20, 19, 16, 10, 0, 1, 2, 3, 4] [] ?_
           refine ha1 18 ?_
           refine hi (fun γ0 δ hm => ?_)
           refine JG_index (by kernel_rfl) (d := a0_0) (m := s21.2.length) (j := (w64 (x1 + s21.1))) (s := 1) (by kernel_rfl) (fun w hs => (hs.view 0 rfl)) rfl hx41 rfl ?_
           refine gn hm [34, 29, 23, 20, 19, 16, 10, 0, 1, 2, 3, 4] [] ?_
           refine ha1 19 ?_
           refine hi (fun γ0 δ hm => ?_)
           refine JG_loadq (by kernel_rfl) (t := 3) (d := a0_0) (Int.toNat (w64 (x1 + s21.1)) * 1) 0 (by kernel_rfl) (cs := [.int .i64 x40]) (v := .int .i64 x40) (fun w hs => (hs.view 0 rfl).flatq hx41) (by kernel_rfl) rfl ?_
           refine gn hm [35, 29, 23, 20, 19, 16, 10, 0, 1, 2, 3, 4] [] ?_
           refine ha1 20 ?_
           refine hi (fun γ0 δ hm => ?_)
           refine JG_index (by kernel_rfl) (d := a0_0) (m := s21.2.length) (j := (w64 (x1 + s21.1))) (s := 1) (by kernel_rfl) (fun w hs => (hs.view 0 rfl)) rfl hx44 rfl ?_
           refine gn hm [36, 35, 29, 23, 20, 10, 0, 1, 2, 3, 4] [] ?_
           refine ha1 21 ?_
           refine hi (fun γ0 δ hm => ?_)
           refine JG_storeq (α := Int) (d := a0_0) (vs := [.int .i64 x37]) (j := (w64 (x1 + s21.1))) (x' := x37) (by kernel_rfl) 0 (by kernel_rfl) hx44 (Rc := []) (Rr := []) rfl (by kernel_rfl) (fun w c F Fs ho _ _ => own_flat_set (by kernel_rfl) ho) hm47 (sl' := [(36, .q a0_0 (Int.toNat (w64 (x1 + s21.1)) * 1)), (35, vi x40), (29, vi x37), (23, vi (w64 (x2 + s21.1))), (20, .v (.slice a0_0 s21.2.length c0_0)), (10, vi s21.1), (0, .v (.slice a0_0 s21.2.length c0_0)), (1, vi x1), (2, vi x2), (3, vi x3), (4, .v (.func (.func 35) #[] #[.pointer (some ⟨g4_0, 0, none⟩), .pointer (some ⟨g4_1, 0, none⟩), .pointer (some ⟨g4_2, 0, none⟩)]))]) (by kernel_rfl) ?_
           refine KG_eqE (sl' := [(36, .q a0_0 (Int.toNat (w64 (x1 + s21.1)) * 1)), (35, vi x40), (29, vi x37), (23, vi (w64 (x2 + s21.1))), (20, .v (.slice a0_0 l46.length c0_0)), (10, vi s21.1), (0, .v (.slice a0_0 l46.length c0_0)), (1, vi x1), (2, vi x2), (3, vi x3), (4, .v (.func (.func 35) #[] #[.pointer (some ⟨g4_0, 0, none⟩), .pointer (some ⟨g4_1, 0, none⟩), .pointer (some ⟨g4_2, 0, none⟩)]))]) (bx' := []) (by simp only [hl49]) rfl ?_
           refine gn hm [35, 23, 20, 10, 0, 1, 2, 3, 4] [] ?_
           refine ha1 22 ?_
           refine hi (fun γ0 δ hm => ?_)
           refine JG_index (by kernel_rfl) (d := a0_0) (m := l46.length) (j := (w64 (x2 + s21.1))) (s := 1) (by kernel_rfl) (fun w hs => (hs.view 0 rfl)) rfl hx51 rfl ?_
           refine gn hm [37, 35, 10, 0, 1, 2, 3, 4] [] ?_
           refine ha1 23 ?_
           refine hi (fun γ0 δ hm => ?_)
           refine JG_storeq (α := Int) (d := a0_0) (vs := [.int .i64 x40]) (j := (w64 (x2 + s21.1))) (x' := x40) (by kernel_rfl) 0 (by kernel_rfl) hx51 (Rc := []) (Rr := []) rfl (by kernel_rfl) (fun w c F Fs ho _ _ => own_flat_set (by kernel_rfl) ho) hm54 (sl' := [(37, .q a0_0 (Int.toNat (w64 (x2 + s21.1)) * 1)), (35, vi x40), (10, vi s21.1), (0, .v (.slice a0_0 l46.length c0_0)), (1, vi x1), (2, vi x2), (3, vi x3), (4, .v (.func (.func 35) #[] #[.pointer (some ⟨g4_0, 0, none⟩), .pointer (some ⟨g4_1, 0, none⟩), .pointer (some ⟨g4_2, 0, none⟩)]))]) (by kernel_rfl) ?_
           refine KG_eqE (sl' := [(37, .q a0_0 (Int.toNat (w64 (x2 + s21.1)) * 1)), (35, vi x40), (10, vi s21.1), (0, .v (.slice a0_0 l53.length c0_0)), (1, vi x1), (2, vi x2), (3, vi x3), (4, .v (.func (.func 35) #[] #[.pointer (some ⟨g4_0, 0, none⟩), .pointer (some ⟨g4_1, 0, none⟩), .pointer (some ⟨g4_2, 0, none⟩)]))]) (bx' := []) (by simp only [hl56]) rfl ?_
           refine gn hm [10, 0, 1, 2, 3, 4] [] ?_
           exact hd () [10, 0, 1, 2, 3, 4] [0] 0
         · refine hi (fun γ0 δ hm => ?_)
           refine JG_index (by kernel_rfl) (d := a0_0) (m := s21.2.length) (j := (w64 (x1 + s21.1))) (s := 1) (by kernel_rfl) (fun w hs => (hs.view 0 rfl)) rfl hx41 rfl ?_
           refine gn hm [34, 28, 23, 20, 19, 16, 10, 0, 1, 2, 3, 4] [] ?_
           refine ha2 13 19 ?_ ?_
           · refine hi (fun γ0 δ hm => ?_)
             refine JG_loadq (by kernel_rfl) (t := 3) (d := a0_0) (Int.toNat (w64 (x2 + s21.1)) * 1) 0 (by kernel_rfl) (cs := [.int .i64 x37]) (v := .int .i64 x37) (fun w hs => (hs.view 0 rfl).flatq hx38) (by kernel_rfl) rfl ?_
             refine gn hm [29, 34, 23, 20, 19, 16, 10, 0, 1, 2, 3, 4] [] ?_
             refine ha1 19 ?_
             refine hi (fun γ0 δ hm => ?_)
             refine JG_loadq (by kernel_rfl) (t := 3) (d := a0_0) (Int.toNat (w64 (x1 + s21.1)) * 1) 0 (by kernel_rfl) (cs := [.int .i64 x40]) (v := .int .i64 x40) (fun w hs => (hs.view 0 rfl).flatq hx41) (by kernel_rfl) rfl ?_
             refine gn hm [35, 29, 23, 20, 19, 16, 10, 0, 1, 2, 3, 4] [] ?_
             refine ha1 20 ?_
             refine hi (fun γ0 δ hm => ?_)
             refine JG_index (by kernel_rfl) (d := a0_0) (m := s21.2.length) (j := (w64 (x1 + s21.1))) (s := 1) (by kernel_rfl) (fun w hs => (hs.view 0 rfl)) rfl hx44 rfl ?_
             refine gn hm [36, 35, 29, 23, 20, 10, 0, 1, 2, 3, 4] [] ?_
             refine ha1 21 ?_
             refine hi (fun γ0 δ hm => ?_)
             refine JG_storeq (α := Int) (d := a0_0) (vs := [.int .i64 x37]) (j := (w64 (x1 + s21.1))) (x' := x37) (by kernel_rfl) 0 (by kernel_rfl) hx44 (Rc := []) (Rr := []) rfl (by kernel_rfl) (fun w c F Fs ho _ _ => own_flat_set (by kernel_rfl) ho) hm47 (sl' := [(36, .q a0_0 (Int.toNat (w64 (x1 + s21.1)) * 1)), (35, vi x40), (29, vi x37), (23, vi (w64 (x2 + s21.1))), (20, .v (.slice a0_0 s21.2.length c0_0)), (10, vi s21.1), (0, .v (.slice a0_0 s21.2.length c0_0)), (1, vi x1), (2, vi x2), (3, vi x3), (4, .v (.func (.func 35) #[] #[.pointer (some ⟨g4_0, 0, none⟩), .pointer (some ⟨g4_1, 0, none⟩), .pointer (some ⟨g4_2, 0, none⟩)]))]) (by kernel_rfl) ?_
             refine KG_eqE (sl' := [(36, .q a0_0 (Int.toNat (w64 (x1 + s21.1)) * 1)), (35, vi x40), (29, vi x37), (23, vi (w64 (x2 + s21.1))), (20, .v (.slice a0_0 l46.length c0_0)), (10, vi s21.1), (0, .v (.slice a0_0 l46.length c0_0)), (1, vi x1), (2, vi x2), (3, vi x3), (4, .v (.func (.func 35) #[] #[.pointer (some ⟨g4_0, 0, none⟩), .pointer (some ⟨g4_1, 0, none⟩), .pointer (some ⟨g4_2, 0, none⟩)]))]) (bx' := []) (by simp only [hl49]) rfl ?_
             refine gn hm [35, 23, 20, 10, 0, 1, 2, 3, 4] [] ?_
             refine ha1 22 ?_
             refine hi (fun γ0 δ hm => ?_)
             refine JG_index (by kernel_rfl) (d := a0_0) (m := l46.length) (j := (w64 (x2 + s21.1))) (s := 1) (by kernel_rfl) (fun w hs => (hs.view 0 rfl)) rfl hx51 rfl ?_
             refine gn hm [37, 35, 10, 0, 1, 2, 3, 4] [] ?_
             refine ha1 23 ?_
             refine hi (fun γ0 δ hm => ?_)
             refine JG_storeq (α := Int) (d := a0_0) (vs := [.int .i64 x40]) (j := (w64 (x2 + s21.1))) (x' := x40) (by kernel_rfl) 0 (by kernel_rfl) hx51 (Rc := []) (Rr := []) rfl (by kernel_rfl) (fun w c F Fs ho _ _ => own_flat_set (by kernel_rfl) ho) hm54 (sl' := [(37, .q a0_0 (Int.toNat (w64 (x2 + s21.1)) * 1)), (35, vi x40), (10, vi s21.1), (0, .v (.slice a0_0 l46.length c0_0)), (1, vi x1), (2, vi x2), (3, vi x3), (4, .v (.func (.func 35) #[] #[.pointer (some ⟨g4_0, 0, none⟩), .pointer (some ⟨g4_1, 0, none⟩), .pointer (some ⟨g4_2, 0, none⟩)]))]) (by kernel_rfl) ?_
             refine KG_eqE (sl' := [(37, .q a0_0 (Int.toNat (w64 (x2 + s21.1)) * 1)), (35, vi x40), (10, vi s21.1), (0, .v (.slice a0_0 l53.length c0_0)), (1, vi x1), (2, vi x2), (3, vi x3), (4, .v (.func (.func 35) #[] #[.pointer (some ⟨g4_0, 0, none⟩), .pointer (some ⟨g4_1, 0, none⟩), .pointer (some ⟨g4_2, 0, none⟩)]))]) (bx' := []) (by simp only [hl56]) rfl ?_
             refine gn hm [10, 0, 1, 2, 3, 4] [] ?_
             exact hd () [10, 0, 1, 2, 3, 4] [0] 0
           · refine hi (fun γ0 δ hm => ?_)
             refine JG_loadq (by kernel_rfl) (t := 3) (d := a0_0) (Int.toNat (w64 (x1 + s21.1)) * 1) 0 (by kernel_rfl) (cs := [.int .i64 x40]) (v := .int .i64 x40) (fun w hs => (hs.view 0 rfl).flatq hx41) (by kernel_rfl) rfl ?_
             refine gn hm [35, 28, 23, 20, 19, 16, 10, 0, 1, 2, 3, 4] [] ?_
             refine ha1 13 ?_
             refine hi (fun γ0 δ hm => ?_)
             refine JG_loadq (by kernel_rfl) (t := 3) (d := a0_0) (Int.toNat (w64 (x2 + s21.1)) * 1) 0 (by kernel_rfl) (cs := [.int .i64 x37]) (v := .int .i64 x37) (fun w hs => (hs.view 0 rfl).flatq hx38) (by kernel_rfl) rfl ?_
             refine gn hm [29, 35, 23, 20, 19, 16, 10, 0, 1, 2, 3, 4] [] ?_
             refine ha1 20 ?_
             refine hi (fun γ0 δ hm => ?_)
             refine JG_index (by kernel_rfl) (d := a0_0) (m := s21.2.length) (j := (w64 (x1 + s21.1))) (s := 1) (by kernel_rfl) (fun w hs => (hs.view 0 rfl)) rfl hx44 rfl ?_
             refine gn hm [36, 29, 35, 23, 20, 10, 0, 1, 2, 3, 4] [] ?_
             refine ha1 21 ?_
             refine hi (fun γ0 δ hm => ?_)
             refine JG_storeq (α := Int) (d := a0_0) (vs := [.int .i64 x37]) (j := (w64 (x1 + s21.1))) (x' := x37) (by kernel_rfl) 0 (by kernel_rfl) hx44 (Rc := []) (Rr := []) rfl (by kernel_rfl) (fun w c F Fs ho _ _ => own_flat_set (by kernel_rfl) ho) hm47 (sl' := [(36, .q a0_0 (Int.toNat (w64 (x1 + s21.1)) * 1)), (29, vi x37), (35, vi x40), (23, vi (w64 (x2 + s21.1))), (20, .v (.slice a0_0 s21.2.length c0_0)), (10, vi s21.1), (0, .v (.slice a0_0 s21.2.length c0_0)), (1, vi x1), (2, vi x2), (3, vi x3), (4, .v (.func (.func 35) #[] #[.pointer (some ⟨g4_0, 0, none⟩), .pointer (some ⟨g4_1, 0, none⟩), .pointer (some ⟨g4_2, 0, none⟩)]))]) (by kernel_rfl) ?_
             refine KG_eqE (sl' := [(36, .q a0_0 (Int.toNat (w64 (x1 + s21.1)) * 1)), (29, vi x37), (35, vi x40), (23, vi (w64 (x2 + s21.1))), (20, .v (.slice a0_0 l46.length c0_0)), (10, vi s21.1), (0, .v (.slice a0_0 l46.length c0_0)), (1, vi x1), (2, vi x2), (3, vi x3), (4, .v (.func (.func 35) #[] #[.pointer (some ⟨g4_0, 0, none⟩), .pointer (some ⟨g4_1, 0, none⟩), .pointer (some ⟨g4_2, 0, none⟩)]))]) (bx' := []) (by simp only [hl49]) rfl ?_
             refine gn hm [35, 23, 20, 10, 0, 1, 2, 3, 4] [] ?_
             refine ha1 22 ?_
             refine hi (fun γ0 δ hm => ?_)
             refine JG_index (by kernel_rfl) (d := a0_0) (m := l46.length) (j := (w64 (x2 + s21.1))) (s := 1) (by kernel_rfl) (fun w hs => (hs.view 0 rfl)) rfl hx51 rfl ?_
             refine gn hm [37, 35, 10, 0, 1, 2, 3, 4] [] ?_
             refine ha1 23 ?_
             refine hi (fun γ0 δ hm => ?_)
             refine JG_storeq (α := Int) (d := a0_0) (vs := [.int .i64 x40]) (j := (w64 (x2 + s21.1))) (x' := x40) (by kernel_rfl) 0 (by kernel_rfl) hx51 (Rc := []) (Rr := []) rfl (by kernel_rfl) (fun w c F Fs ho _ _ => own_flat_set (by kernel_rfl) ho) hm54 (sl' := [(37, .q a0_0 (Int.toNat (w64 (x2 + s21.1)) * 1)), (35, vi x40), (10, vi s21.1), (0, .v (.slice a0_0 l46.length c0_0)), (1, vi x1), (2, vi x2), (3, vi x3), (4, .v (.func (.func 35) #[] #[.pointer (some ⟨g4_0, 0, none⟩), .pointer (some ⟨g4_1, 0, none⟩), .pointer (some ⟨g4_2, 0, none⟩)]))]) (by kernel_rfl) ?_
             refine KG_eqE (sl' := [(37, .q a0_0 (Int.toNat (w64 (x2 + s21.1)) * 1)), (35, vi x40), (10, vi s21.1), (0, .v (.slice a0_0 l53.length c0_0)), (1, vi x1), (2, vi x2), (3, vi x3), (4, .v (.func (.func 35) #[] #[.pointer (some ⟨g4_0, 0, none⟩), .pointer (some ⟨g4_1, 0, none⟩), .pointer (some ⟨g4_2, 0, none⟩)]))]) (bx' := []) (by simp only [hl56]) rfl ?_
             refine gn hm [10, 0, 1, 2, 3, 4] [] ?_
             exact hd () [10, 0, 1, 2, 3, 4] [0] 0
       · refine hi (fun γ0 δ hm => ?_)
         refine JG_index (by kernel_rfl) (d := a0_0) (m := s21.2.length) (j := (w64 (x1 + s21.1))) (s := 1) (by kernel_rfl) (fun w hs => (hs.view 0 rfl)) rfl hx41 rfl ?_
         refine gn hm [34, 27, 24, 23, 20, 19, 16, 10, 0, 1, 2, 3, 4] [] ?_
         refine ha2 12 19 ?_ ?_
         · refine hi (fun γ0 δ hm => ?_)
           refine JG_index (by kernel_rfl) (d := a0_0) (m := s21.2.length) (j := (w64 (x2 + s21.1))) (s := 1) (by kernel_rfl) (fun w hs => (hs.view 0 rfl)) rfl hx38 rfl ?_
           refine gn hm [28, 34, 23, 20, 19, 16, 10, 0, 1, 2, 3, 4] [] ?_
           refine ha2 13 19 ?_ ?_
           · refine hi (fun γ0 δ hm => ?_)
             refine JG_loadq (by kernel_rfl) (t := 3) (d := a0_0) (Int.toNat (w64 (x2 + s21.1)) * 1) 0 (by kernel_rfl) (cs := [.int .i64 x37]) (v := .int .i64 x37) (fun w hs => (hs.view 0 rfl).flatq hx38) (by kernel_rfl) rfl ?_
             refine gn hm [29, 34, 23, 20, 19, 16, 10, 0, 1, 2, 3, 4] [] ?_
             refine ha1 19 ?_
             refine hi (fun γ0 δ hm => ?_)
             refine JG_loadq (by kernel_rfl) (t := 3) (d := a0_0) (Int.toNat (w64 (x1 + s21.1)) * 1) 0 (by kernel_rfl) (cs := [.int .i64 x40]) (v := .int .i64 x40) (fun w hs => (hs.view 0 rfl).flatq hx41) (by kernel_rfl) rfl ?_
             refine gn hm [35, 29, 23, 20, 19, 16, 10, 0, 1, 2, 3, 4] [] ?_
             refine ha1 20 ?_
             refine hi (fun γ0 δ hm => ?_)
             refine JG_index (by kernel_rfl) (d := a0_0) (m := s21.2.length) (j := (w64 (x1 + s21.1))) (s := 1) (by kernel_rfl) (fun w hs => (hs.view 0 rfl)) rfl hx44 rfl ?_
             refine gn hm [36, 35, 29, 23, 20, 10, 0, 1, 2, 3, 4] [] ?_
             refine ha1 21 ?_
             refine hi (fun γ0 δ hm => ?_)
             refine JG_storeq (α := Int) (d := a0_0) (vs := [.int .i64 x37]) (j := (w64 (x1 + s21.1))) (x' := x37) (by kernel_rfl) 0 (by kernel_rfl) hx44 (Rc := []) (Rr := []) rfl (by kernel_rfl) (fun w c F Fs ho _ _ => own_flat_set (by kernel_rfl) ho) hm47 (sl' := [(36, .q a0_0 (Int.toNat (w64 (x1 + s21.1)) * 1)), (35, vi x40), (29, vi x37), (23, vi (w64 (x2 + s21.1))), (20, .v (.slice a0_0 s21.2.length c0_0)), (10, vi s21.1), (0, .v (.slice a0_0 s21.2.length c0_0)), (1, vi x1), (2, vi x2), (3, vi x3), (4, .v (.func (.func 35) #[] #[.pointer (some ⟨g4_0, 0, none⟩), .pointer (some ⟨g4_1, 0, none⟩), .pointer (some ⟨g4_2, 0, none⟩)]))]) (by kernel_rfl) ?_
             refine KG_eqE (sl' := [(36, .q a0_0 (Int.toNat (w64 (x1 + s21.1)) * 1)), (35, vi x40), (29, vi x37), (23, vi (w64 (x2 + s21.1))), (20, .v (.slice a0_0 l46.length c0_0)), (10, vi s21.1), (0, .v (.slice a0_0 l46.length c0_0)), (1, vi x1), (2, vi x2), (3, vi x3), (4, .v (.func (.func 35) #[] #[.pointer (some ⟨g4_0, 0, none⟩), .pointer (some ⟨g4_1, 0, none⟩), .pointer (some ⟨g4_2, 0, none⟩)]))]) (bx' := []) (by simp only [hl49]) rfl ?_
             refine gn hm [35, 23, 20, 10, 0, 1, 2, 3, 4] [] ?_
             refine ha1 22 ?_
             refine hi (fun γ0 δ hm => ?_)
             refine JG_index (by kernel_rfl) (d := a0_0) (m := l46.length) (j := (w64 (x2 + s21.1))) (s := 1) (by kernel_rfl) (fun w hs => (hs.view 0 rfl)) rfl hx51 rfl ?_
             refine gn hm [37, 35, 10, 0, 1, 2, 3, 4] [] ?_
             refine ha1 23 ?_
             refine hi (fun γ0 δ hm => ?_)
             refine JG_storeq (α := Int) (d := a0_0) (vs := [.int .i64 x40]) (j := (w64 (x2 + s21.1))) (x' := x40) (by kernel_rfl) 0 (by kernel_rfl) hx51 (Rc := []) (Rr := []) rfl (by kernel_rfl) (fun w c F Fs ho _ _ => own_flat_set (by kernel_rfl) ho) hm54 (sl' := [(37, .q a0_0 (Int.toNat (w64 (x2 + s21.1)) * 1)), (35, vi x40), (10, vi s21.1), (0, .v (.slice a0_0 l46.length c0_0)), (1, vi x1), (2, vi x2), (3, vi x3), (4, .v (.func (.func 35) #[] #[.pointer (some ⟨g4_0, 0, none⟩), .pointer (some ⟨g4_1, 0, none⟩), .pointer (some ⟨g4_2, 0, none⟩)]))]) (by kernel_rfl) ?_
             refine KG_eqE (sl' := [(37, .q a0_0 (Int.toNat (w64 (x2 + s21.1)) * 1)), (35, vi x40), (10, vi s21.1), (0, .v (.slice a0_0 l53.length c0_0)), (1, vi x1), (2, vi x2), (3, vi x3), (4, .v (.func (.func 35) #[] #[.pointer (some ⟨g4_0, 0, none⟩), .pointer (some ⟨g4_1, 0, none⟩), .pointer (some ⟨g4_2, 0, none⟩)]))]) (bx' := []) (by simp only [hl56]) rfl ?_
             refine gn hm [10, 0, 1, 2, 3, 4] [] ?_
             exact hd () [10, 0, 1, 2, 3, 4] [0] 0
           · refine hi (fun γ0 δ hm => ?_)
             refine JG_loadq (by kernel_rfl) (t := 3) (d := a0_0) (Int.toNat (w64 (x1 + s21.1)) * 1) 0 (by kernel_rfl) (cs := [.int .i64 x40]) (v := .int .i64 x40) (fun w hs => (hs.view 0 rfl).flatq hx41) (by kernel_rfl) rfl ?_
             refine gn hm [35, 28, 23, 20, 19, 16, 10, 0, 1, 2, 3, 4] [] ?_
             refine ha1 13 ?_
             refine hi (fun γ0 δ hm => ?_)
             refine JG_loadq (by kernel_rfl) (t := 3) (d := a0_0) (Int.toNat (w64 (x2 + s21.1)) * 1) 0 (by kernel_rfl) (cs := [.int .i64 x37]) (v := .int .i64 x37) (fun w hs => (hs.view 0 rfl).flatq hx38) (by kernel_rfl) rfl ?_
             refine gn hm [29, 35, 23, 20, 19, 16, 10, 0, 1, 2, 3, 4] [] ?_
             refine ha1 20 ?_
             refine hi (fun γ0 δ hm => ?_)
             refine JG_index (by kernel_rfl) (d := a0_0) (m := s21.2.length) (j := (w64 (x1 + s21.1))) (s := 1) (by kernel_rfl) (fun w hs => (hs.view 0 rfl)) rfl hx44 rfl ?_
             refine gn hm [36, 29, 35, 23, 20, 10, 0, 1, 2, 3, 4] [] ?_
             refine ha1 21 ?_
             refine hi (fun γ0 δ hm => ?_)
             refine JG_storeq (α := Int) (d := a0_0) (vs := [.int .i64 x37]) (j := (w64 (x1 + s21.1))) (x' := x37) (by kernel_rfl) 0 (by kernel_rfl) hx44 (Rc := []) (Rr := []) rfl (by kernel_rfl) (fun w c F Fs ho _ _ => own_flat_set (by kernel_rfl) ho) hm47 (sl' := [(36, .q a0_0 (Int.toNat (w64 (x1 + s21.1)) * 1)), (29, vi x37), (35, vi x40), (23, vi (w64 (x2 + s21.1))), (20, .v (.slice a0_0 s21.2.length c0_0)), (10, vi s21.1), (0, .v (.slice a0_0 s21.2.length c0_0)), (1, vi x1), (2, vi x2), (3, vi x3), (4, .v (.func (.func 35) #[] #[.pointer (some ⟨g4_0, 0, none⟩), .pointer (some ⟨g4_1, 0, none⟩), .pointer (some ⟨g4_2, 0, none⟩)]))]) (by kernel_rfl) ?_
             refine KG_eqE (sl' := [(36, .q a0_0 (Int.toNat (w64 (x1 + s21.1)) * 1)), (29, vi x37), (35, vi x40), (23, vi (w64 (x2 + s21.1))), (20, .v (.slice a0_0 l46.length c0_0)), (10, vi s21.1), (0, .v (.slice a0_0 l46.length c0_0)), (1, vi x1), (2, vi x2), (3, vi x3), (4, .v (.func (.func 35) #[] #[.pointer (some ⟨g4_0, 0, none⟩), .pointer (some ⟨g4_1, 0, none⟩), .pointer (some ⟨g4_2, 0, none⟩)]))]) (bx' := []) (by simp only [hl49]) rfl ?_
             refine gn hm [35, 23, 20, 10, 0, 1, 2, 3, 4] [] ?_
             refine ha1 22 ?_
             refine hi (fun γ0 δ hm => ?_)
             refine JG_index (by kernel_rfl) (d := a0_0) (m := l46.length) (j := (w64 (x2 + s21.1))) (s := 1) (by kernel_rfl) (fun w hs => (hs.view 0 rfl)) rfl hx51 rfl ?_
             refine gn hm [37, 35, 10, 0, 1, 2, 3, 4] [] ?_
             refine ha1 23 ?_
             refine hi (fun γ0 δ hm => ?_)
             refine JG_storeq (α := Int) (d := a0_0) (vs := [.int .i64 x40]) (j := (w64 (x2 + s21.1))) (x' := x40) (by kernel_rfl) 0 (by kernel_rfl) hx51 (Rc := []) (Rr := []) rfl (by kernel_rfl) (fun w c F Fs ho _ _ => own_flat_set (by kernel_rfl) ho) hm54 (sl' := [(37, .q a0_0 (Int.toNat (w64 (x2 + s21.1)) * 1)), (35, vi x40), (10, vi s21.1), (0, .v (.slice a0_0 l46.length c0_0)), (1, vi x1), (2, vi x2), (3, vi x3), (4, .v (.func (.func 35) #[] #[.pointer (some ⟨g4_0, 0, none⟩), .pointer (some ⟨g4_1, 0, none⟩), .pointer (some ⟨g4_2, 0, none⟩)]))]) (by kernel_rfl) ?_
             refine KG_eqE (sl' := [(37, .q a0_0 (Int.toNat (w64 (x2 + s21.1)) * 1)), (35, vi x40), (10, vi s21.1), (0, .v (.slice a0_0 l53.length c0_0)), (1, vi x1), (2, vi x2), (3, vi x3), (4, .v (.func (.func 35) #[] #[.pointer (some ⟨g4_0, 0, none⟩), .pointer (some ⟨g4_1, 0, none⟩), .pointer (some ⟨g4_2, 0, none⟩)]))]) (bx' := []) (by simp only [hl56]) rfl ?_
             refine gn hm [10, 0, 1, 2, 3, 4] [] ?_
             exact hd () [10, 0, 1, 2, 3, 4] [0] 0
         · refine hi (fun γ0 δ hm => ?_)
           refine JG_loadq (by kernel_rfl) (t := 3) (d := a0_0) (Int.toNat (w64 (x1 + s21.1)) * 1) 0 (by kernel_rfl) (cs := [.int .i64 x40]) (v := .int .i64 x40) (fun w hs => (hs.view 0 rfl).flatq hx41) (by kernel_rfl) rfl ?_
           refine gn hm [35, 27, 24, 23, 20, 19, 16, 10, 0, 1, 2, 3, 4] [] ?_
           refine ha1 12 ?_
           refine hi (fun γ0 δ hm => ?_)
           refine JG_index (by kernel_rfl) (d := a0_0) (m := s21.2.length) (j := (w64 (x2 + s21.1))) (s := 1) (by kernel_rfl) (fun w hs => (hs.view 0 rfl)) rfl hx38 rfl ?_
           refine gn hm [28, 35, 23, 20, 19, 16, 10, 0, 1, 2, 3, 4] [] ?_
           refine ha1 13 ?_
           refine hi (fun γ0 δ hm => ?_)
           refine JG_loadq (by kernel_rfl) (t := 3) (d := a0_0) (Int.toNat (w64 (x2 + s21.1)) * 1) 0 (by kernel_rfl) (cs := [.int .i64 x37]) (v := .int .i64 x37) (fun w hs => (hs.view 0 rfl).flatq hx38) (by kernel_rfl) rfl ?_
           refine gn hm [29, 35, 23, 20, 19, 16, 10, 0, 1, 2, 3, 4] [] ?_
           refine ha1 20 ?_
           refine hi (fun γ0 δ hm => ?_)
           refine JG_index (by kernel_rfl) (d := a0_0) (m := s21.2.length) (j := (w64 (x1 + s21.1))) (s := 1) (by kernel_rfl) (fun w hs => (hs.view 0 rfl)) rfl hx44 rfl ?_
           refine gn hm [36, 29, 35, 23, 20, 10, 0, 1, 2, 3, 4] [] ?_
           refine ha1 21 ?_
           refine hi (fun γ0 δ hm => ?_)
           refine JG_storeq (α := Int) (d := a0_0) (vs := [.int .i64 x37]) (j := (w64 (x1 + s21.1))) (x' := x37) (by kernel_rfl) 0 (by kernel_rfl) hx44 (Rc := []) (Rr := []) rfl (by kernel_rfl) (fun w c F Fs ho _ _ => own_flat_set (by kernel_rfl) ho) hm47 (sl' := [(36, .q a0_0 (Int.toNat (w64 (x1 + s21.1)) * 1)), (29, vi x37), (35, vi x40), (23, vi (w64 (x2 + s21.1))), (20, .v (.slice a0_0 s21.2.length c0_0)), (10, vi s21.1), (0, .v (.slice a0_0 s21.2.length c0_0)), (1, vi x1), (2, vi x2), (3, vi x3), (4, .v (.func (.func 35) #[] #[.pointer (some ⟨g4_0, 0, none⟩), .pointer (some ⟨g4_1, 0, none⟩), .pointer (some ⟨g4_2, 0, none⟩)]))]) (by kernel_rfl) ?_
           refine KG_eqE (sl' := [(36, .q a0_0 (Int.toNat (w64 (x1 + s21.1)) * 1)), (29, vi x37), (35, vi x40), (23, vi (w64 (x2 + s21.1))), (20, .v (.slice a0_0 l46.length c0_0)), (10, vi s21.1), (0, .v (.slice a0_0 l46.length c0_0)), (1, vi x1), (2, vi x2), (3, vi x3), (4, .v (.func (.func 35) #[] #[.pointer (some ⟨g4_0, 0, none⟩), .pointer (some ⟨g4_1, 0, none⟩), .pointer (some ⟨g4_2, 0, none⟩)]))]) (bx' := []) (by simp only [hl49]) rfl ?_
           refine gn hm [35, 23, 20, 10, 0, 1, 2, 3, 4] [] ?_
           refine ha1 22 ?_
           refine hi (fun γ0 δ hm => ?_)
           refine JG_index (by kernel_rfl) (d := a0_0) (m := l46.length) (j := (w64 (x2 + s21.1))) (s := 1) (by kernel_rfl) (fun w hs => (hs.view 0 rfl)) rfl hx51 rfl ?_
           refine gn hm [37, 35, 10, 0, 1, 2, 3, 4] [] ?_
           refine ha1 23 ?_
           refine hi (fun γ0 δ hm => ?_)
           refine JG_storeq (α := Int) (d := a0_0) (vs := [.int .i64 x40]) (j := (w64 (x2 + s21.1))) (x' := x40) (by kernel_rfl) 0 (by kernel_rfl) hx51 (Rc := []) (Rr := []) rfl (by kernel_rfl) (fun w c F Fs ho _ _ => own_flat_set (by kernel_rfl) ho) hm54 (sl' := [(37, .q a0_0 (Int.toNat (w64 (x2 + s21.1)) * 1)), (35, vi x40), (10, vi s21.1), (0, .v (.slice a0_0 l46.length c0_0)), (1, vi x1), (2, vi x2), (3, vi x3), (4, .v (.func (.func 35) #[] #[.pointer (some ⟨g4_0, 0, none⟩), .pointer (some ⟨g4_1, 0, none⟩), .pointer (some ⟨g4_2, 0, none⟩)]))]) (by kernel_rfl) ?_
           refine KG_eqE (sl' := [(37, .q a0_0 (Int.toNat (w64 (x2 + s21.1)) * 1)), (35, vi x40), (10, vi s21.1), (0, .v (.slice a0_0 l53.length c0_0)), (1, vi x1), (2, vi x2), (3, vi x3), (4, .v (.func (.func 35) #[] #[.pointer (some ⟨g4_0, 0, none⟩), .pointer (some ⟨g4_1, 0, none⟩), .pointer (some ⟨g4_2, 0, none⟩)]))]) (bx' := []) (by simp only [hl56]) rfl ?_
           refine gn hm [10, 0, 1, 2, 3, 4] [] ?_
           exact hd () [10, 0, 1, 2, 3, 4] [0] 0
     refine bn (nt (qr (oN 3 [(10, vi (w64 (s21.1 + 1)))] [0, 1, 2, 3, 4] ?_)))
     exact oe (ct h55 () [10, 0, 1, 2, 3, 4] [0] 0)
   refine qx (nx (nx (bh ?_)))
   have h58 := leafB hd30 h36 h26
   exact mp (s21.2, ()) h58 [0, 4] [0] 0
 have h33 := (congrFun hk28 _).symm.trans h33p
 refine JE_fall (vs := []) (by kernel_rfl) (fun γ w hs => ?_)
 rw [← sI h33]
 exact hs.turned (is := [0]) rfl

theorem c_slices_rotateCmpFunc_int__impl_Allocate_1 {W : World} {x0 : List Int} {a0_0 : Option Addr} {c0_0 : Nat} {e0_0 : TypeId} {x1 : Int} {x2 : Int} {x3 : Int} {g4_0 : Nat} {z4_0 : Int} {g4_1 : Nat} {z4_1 : List Int} {g4_2 : Nat} {z4_2 : Int} {r : (List Int)} (h : slices_rotateCmpFunc_int__impl_Allocate_1 x0 x1 x2 x3 z4_0 z4_1 z4_2 = some r)  :
    GivesMQ Try.prog (fun w => ∀ (q0 : Int) (q1 : Int) (r : Int), impl_Allocate_1 q0 q1 z4_0 z4_1 z4_2 = some r → Gives0 Try.prog 35 #[.int .i64 q0, .int .i64 q1, .pointer (some ⟨g4_0, 0, none⟩), .pointer (some ⟨g4_1, 0, none⟩), .pointer (some ⟨g4_2, 0, none⟩)] w (.int .i64 r)) 45 #[.slice a0_0 x0.length c0_0, .int .i64 x1, .int .i64 x2, .int .i64 x3, .func (.func 35) #[] #[.pointer (some ⟨g4_0, 0, none⟩), .pointer (some ⟨g4_1, 0, none⟩), .pointer (some ⟨g4_2, 0, none⟩)]] W [SlRes e0_0 x0 a0_0 c0_0] [SlRes e0_0 r a0_0 c0_0] (.tuple #[]) := by
 unfold slices_rotateCmpFunc_int__impl_Allocate_1 at h
 refine enterMQ [.v (.slice a0_0 x0.length c0_0), vi x1, vi x2, vi x3, .v (.func (.func 35) #[] #[.pointer (some ⟨g4_0, 0, none⟩), .pointer (some ⟨g4_1, 0, none⟩), .pointer (some ⟨g4_2, 0, none⟩)])] (args := [.slice a0_0 x0.length c0_0, .int .i64 x1, .int .i64 x2, .int .i64 x3, .func (.func 35) #[] #[.pointer (some ⟨g4_0, 0, none⟩), .pointer (some ⟨g4_1, 0, none⟩), .pointer (some ⟨g4_2, 0, none⟩)]]) (by kernel_rfl) (by kernel_rfl) Try.func45 rfl Try.ntmps45 (by kernel_rfl) (fun Fs hq => ?_)
 refine qs (qr (oN 4 [(10, vi (w64 (x2 - x1)))] [0, 2, 3, 4] ?_))
 refine oe (nt (qs (qr (oN 4 [(11, vi (w64 (x3 - x2)))] [10, 0, 2, 4] ?_))))
 refine oe (nt (qs ?_))
 obtain ⟨r24, hL25, h26⟩ := bS h
 obtain ⟨k27, hk28, h26⟩ := brkS h26
 refine JC_cutP (τ := (Int × (List Int) × Int) × (Unit)) (fun y => k27 y.1 = some r) (fun y32 => [(10, vi y32.1.1), (0, .v (.slice a0_0 y32.1.2.1.length c0_0)), (2, vi y32.1.2.2), (4, .v (.func (.func 35) #[] #[.pointer (some ⟨g4_0, 0, none⟩), .pointer (some ⟨g4_1, 0, none⟩), .pointer (some ⟨g4_2, 0, none⟩)]))]) (fun y32 => []) (fun y32 => [SlRes e0_0 y32.1.2.1 a0_0 c0_0]) ?_ (fun y32 h33p => ?_)
 · refine qb (lp Unit hL25 (fun s21 y22 => [(11, vi s21.1), (10, vi s21.2.1), (0, .v (.slice a0_0 s21.2.2.length c0_0)), (2, vi x2), (4, .v (.func (.func 35) #[] #[.pointer (some ⟨g4_0, 0, none⟩), .pointer (some ⟨g4_1, 0, none⟩), .pointer (some ⟨g4_2, 0, none⟩)]))]) (fun s21 y22 => []) (fun s21 y22 => [SlRes e0_0 s21.2.2 a0_0 c0_0]) () [11, 10, 0, 2, 4] [0] 0 (fun s21 y22 t23 h29 hd30 => ?_))
   refine qs (qs (qr (oN 3 [(20, vb (s21.2.1 != s21.1))] [11, 10, 0, 2, 4] ?_)))
   refine oe (nt (cC h29 (fun h43 => ?_) (fun h44 => ?_)))
   · refine qk (nt (qb (qs (qr (oN 3 [(23, vb (decide (s21.2.1 > s21.1)))] [11, 10, 0, 2, 4] ?_)))))
     refine oe (nt (cC h43 (fun h46 => ?_) (fun h47 => ?_)))
     · refine qs (qr (oN 7 [(30, .v (.func (.func 35) #[] #[.pointer (some ⟨g4_0, 0, none⟩), .pointer (some ⟨g4_1, 0, none⟩), .pointer (some ⟨g4_2, 0, none⟩)])), (29, vi s21.1), (28, vi x2), (27, vi (w64 (x2 - s21.2.1))), (24, .v (.slice a0_0 s21.2.2.length c0_0))] [11, 10, 0, 2, 4] ?_))
       obtain ⟨t48, h49, h50⟩ := bS h46
       obtain ⟨u52, hu53, h54⟩ := bS h50
       have hl55 := (sameLen_some hu53).symm
       refine JO_callMQ rfl (by kernel_rfl) (f := 46) (C := fun γ => (fun w => ∀ (q0 : Int) (q1 : Int) (r : Int), impl_Allocate_1 q0 q1 z4_0 z4_1 z4_2 = some r → Gives0 Try.prog 35 #[.int .i64 q0, .int .i64 q1, .pointer (some ⟨g4_0, 0, none⟩), .pointer (some ⟨g4_1, 0, none⟩), .pointer (some ⟨g4_2, 0, none⟩)] w (.int .i64 r))) (args := fun γ => #[.slice a0_0 s21.2.2.length c0_0, .int .i64 (w64 (x2 - s21.2.1)), .int .i64 x2, .int .i64 s21.1, .func (.func 35) #[] #[.pointer (some ⟨g4_0, 0, none⟩), .pointer (some ⟨g4_1, 0, none⟩), .pointer (some ⟨g4_2, 0, none⟩)]]) (fun γ => by kernel_rfl) (x := .tuple #[]) (Rin := [SlRes e0_0 s21.2.2 a0_0 c0_0]) (Rout := [SlRes e0_0 t48 a0_0 c0_0]) (Rr := []) rfl (fun γ w hs => (by have vv := c_slices_swapRangeCmpFunc_int__impl_Allocate_1 (e0_0 := e0_0) (a0_0 := a0_0) (c0_0 := c0_0) (g4_0 := g4_0) (g4_1 := g4_1) (g4_2 := g4_2) (W := w) h49; exact vv)) (fun γ w hk hb => hq w hk) (sl' := [(31, .v (.tuple #[])), (30, .v (.func (.func 35) #[] #[.pointer (some ⟨g4_0, 0, none⟩), .pointer (some ⟨g4_1, 0, none⟩), .pointer (some ⟨g4_2, 0, none⟩)])), (29, vi s21.1), (28, vi x2), (27, vi (w64 (x2 - s21.2.1))), (24, .v (.slice a0_0 s21.2.2.length c0_0)), (11, vi s21.1), (10, vi s21.2.1), (0, .v (.slice a0_0 s21.2.2.length c0_0)), (2, vi x2), (4, .v (.func (.func 35) #[] #[.pointer (some ⟨g4_0, 0, none⟩), .pointer (some ⟨g4_1, 0, none⟩), .pointer (some ⟨g4_2, 0, none⟩)]))]) (by kernel_rfl) ?_
       refine JO_eqE (sl' := [(31, .v (.tuple #[])), (30, .v (.func (.func 35) #[] #[.pointer (some ⟨g4_0, 0, none⟩), .pointer (some ⟨g4_1, 0, none⟩), .pointer (some ⟨g4_2, 0, none⟩)])), (29, vi s21.1), (28, vi x2), (27, vi (w64 (x2 - s21.2.1))), (24, .v (.slice a0_0 t48.length c0_0)), (11, vi s21.1), (10, vi s21.2.1), (0, .v (.slice a0_0 t48.length c0_0)), (2, vi x2), (4, .v (.func (.func 35) #[] #[.pointer (some ⟨g4_0, 0, none⟩), .pointer (some ⟨g4_1, 0, none⟩), .pointer (some ⟨g4_2, 0, none⟩)]))]) (bx' := []) (by simp only [hl55]) rfl ?_
       refine oe (nt (qr (oN 4 [(10, vi (w64 (s21.2.1 - s21.1)))] [11, 0, 2, 4] ?_)))
       exact oe (bn (ct h54 () [11, 10, 0, 2, 4] [0] 0))
     refine qs (qr (oN 11 [(45, .v (.func (.func 35) #[] #[.pointer (some ⟨g4_0, 0, none⟩), .pointer (some ⟨g4_1, 0, none⟩), .pointer (some ⟨g4_2, 0, none⟩)])), (44, vi s21.2.1), (43, vi (w64 ((w64 (x2 + s21.1)) - s21.2.1))), (38, vi (w64 (x2 - s21.2.1))), (35, .v (.slice a0_0 s21.2.2.length c0_0))] [11, 10, 0, 2, 4] ?_))
     obtain ⟨t56, h57, h58⟩ := bS h47
     obtain ⟨u60, hu61, h62⟩ := bS h58
     have hl63 := (sameLen_some hu61).symm
     refine JO_callMQ rfl (by kernel_rfl) (f := 46) (C := fun γ => (fun w => ∀ (q0 : Int) (q1 : Int) (r : Int), impl_Allocate_1 q0 q1 z4_0 z4_1 z4_2 = some r → Gives0 Try.prog 35 #[.int .i64 q0, .int .i64 q1, .pointer (some ⟨g4_0, 0, none⟩), .pointer (some ⟨g4_1, 0, none⟩), .pointer (some ⟨g4_2, 0, none⟩)] w (.int .i64 r))) (args := fun γ => #[.slice a0_0 s21.2.2.length c0_0, .int .i64 (w64 (x2 - s21.2.1)), .int .i64 (w64 ((w64 (x2 + s21.1)) - s21.2.1)), .int .i64 s21.2.1, .func (.func 35) #[] #[.pointer (some ⟨g4_0, 0, none⟩), .pointer (some ⟨g4_1, 0, none⟩), .pointer (some ⟨g4_2, 0, none⟩)]]) (fun γ => by kernel_rfl) (x := .tuple #[]) (Rin := [SlRes e0_0 s21.2.2 a0_0 c0_0]) (Rout := [SlRes e0_0 t56 a0_0 c0_0]) (Rr := []) rfl (fun γ w hs => (by have vv := c_slices_swapRangeCmpFunc_int__impl_Allocate_1 (e0_0 := e0_0) (a0_0 := a0_0) (c0_0 := c0_0) (g4_0 := g4_0) (g4_1 := g4_1) (g4_2 := g4_2) (W := w) h57; exact vv)) (fun γ w hk hb => hq w hk) (sl' := [(46, .v (.tuple #[])), (45, .v (.func (.func 35) #[] #[.pointer (some ⟨g4_0, 0, none⟩), .pointer (some ⟨g4_1, 0, none⟩), .pointer (some ⟨g4_2, 0, none⟩)])), (44, vi s21.2.1), (43, vi (w64 ((w64 (x2 + s21.1)) - s21.2.1))), (38, vi (w64 (x2 - s21.2.1))), (35, .v (.slice a0_0 s21.2.2.length c0_0)), (11, vi s21.1), (10, vi s21.2.1), (0, .v (.slice a0_0 s21.2.2.length c0_0)), (2, vi x2), (4, .v (.func (.func 35) #[] #[.pointer (some ⟨g4_0, 0, none⟩), .pointer (some ⟨g4_1, 0, none⟩), .pointer (some ⟨g4_2, 0, none⟩)]))]) (by kernel_rfl) ?_
     refine JO_eqE (sl' := [(46, .v (.tuple #[])), (45, .v (.func (.func 35) #[] #[.pointer (some ⟨g4_0, 0, none⟩), .pointer (some ⟨g4_1, 0, none⟩), .pointer (some ⟨g4_2, 0, none⟩)])), (44, vi s21.2.1), (43, vi (w64 ((w64 (x2 + s21.1)) - s21.2.1))), (38, vi (w64 (x2 - s21.2.1))), (35, .v (.slice a0_0 t56.length c0_0)), (11, vi s21.1), (10, vi s21.2.1), (0, .v (.slice a0_0 t56.length c0_0)), (2, vi x2), (4, .v (.func (.func 35) #[] #[.pointer (some ⟨g4_0, 0, none⟩), .pointer (some ⟨g4_1, 0, none⟩), .pointer (some ⟨g4_2, 0, none⟩)]))]) (bx' := []) (by simp only [hl63]) rfl ?_
     refine oe (nt (qr (oN 4 [(11, vi (w64 (s21.1 - s21.2.1)))] [10, 0, 2, 4] ?_)))
     exact oe (bn (ct h62 () [11, 10, 0, 2, 4] [0] 0))
   refine qx (nx (nx (bh ?_)))
   have h64 := leafB hd30 h44 h26
   exact mp ((s21.2.1, s21.2.2, x2), ()) h64 [10, 0, 2, 4] [0] 0
 have h33 := (congrFun hk28 _).symm.trans h33p
 refine nt (qr (oN 7 [(56, .v (.func (.func 35) #[] #[.pointer (some ⟨g4_0, 0, none⟩), .pointer (some ⟨g4_1, 0, none⟩), .pointer (some ⟨g4_2, 0, none⟩)])), (55, vi y32.1.1), (54, vi y32.1.2.2), (53, vi (w64 (y32.1.2.2 - y32.1.1))), (50, .v (.slice a0_0 y32.1.2.1.length c0_0))] [0, 4] ?_))
 obtain ⟨t34, h35, h36⟩ := bS h33
 obtain ⟨u38, hu39, h40⟩ := bS h36
 have hl41 := (sameLen_some hu39).symm
 refine JO_callMQ rfl (by kernel_rfl) (f := 46) (C := fun γ => (fun w => ∀ (q0 : Int) (q1 : Int) (r : Int), impl_Allocate_1 q0 q1 z4_0 z4_1 z4_2 = some r → Gives0 Try.prog 35 #[.int .i64 q0, .int .i64 q1, .pointer (some ⟨g4_0, 0, none⟩), .pointer (some ⟨g4_1, 0, none⟩), .pointer (some ⟨g4_2, 0, none⟩)] w (.int .i64 r))) (args := fun γ => #[.slice a0_0 y32.1.2.1.length c0_0, .int .i64 (w64 (y32.1.2.2 - y32.1.1)), .int .i64 y32.1.2.2, .int .i64 y32.1.1, .func (.func 35) #[] #[.pointer (some ⟨g4_0, 0, none⟩), .pointer (some ⟨g4_1, 0, none⟩), .pointer (some ⟨g4_2, 0, none⟩)]]) (fun γ => by kernel_rfl) (x := .tuple #[]) (Rin := [SlRes e0_0 y32.1.2.1 a0_0 c0_0]) (Rout := [SlRes e0_0 t34 a0_0 c0_0]) (Rr := []) rfl (fun γ w hs => (by have vv := c_slices_swapRangeCmpFunc_int__impl_Allocate_1 (e0_0 := e0_0) (a0_0 := a0_0) (c0_0 := c0_0) (g4_0 := g4_0) (g4_1 := g4_1) (g4_2 := g4_2) (W := w) h35; exact vv)) (fun γ w hk hb => hq w hk) (sl' := [(57, .v (.tuple #[])), (56, .v (.func (.func 35) #[] #[.pointer (some ⟨g4_0, 0, none⟩), .pointer (some ⟨g4_1, 0, none⟩), .pointer (some ⟨g4_2, 0, none⟩)])), (55, vi y32.1.1), (54, vi y32.1.2.2), (53, vi (w64 (y32.1.2.2 - y32.1.1))), (50, .v (.slice a0_0 y32.1.2.1.length c0_0)), (0, .v (.slice a0_0 y32.1.2.1.length c0_0)), (4, .v (.func (.func 35) #[] #[.pointer (some ⟨g4_0, 0, none⟩), .pointer (some ⟨g4_1, 0, none⟩), .pointer (some ⟨g4_2, 0, none⟩)]))]) (by kernel_rfl) ?_
 refine JO_eqE (sl' := [(57, .v (.tuple #[])), (56, .v (.func (.func 35) #[] #[.pointer (some ⟨g4_0, 0, none⟩), .pointer (some ⟨g4_1, 0, none⟩), .pointer (some ⟨g4_2, 0, none⟩)])), (55, vi y32.1.1), (54, vi y32.1.2.2), (53, vi (w64 (y32.1.2.2 - y32.1.1))), (50, .v (.slice a0_0 t34.length c0_0)), (0, .v (.slice a0_0 t34.length c0_0)), (4, .v (.func (.func 35) #[] #[.pointer (some ⟨g4_0, 0, none⟩), .pointer (some ⟨g4_1, 0, none⟩), .pointer (some ⟨g4_2, 0, none⟩)]))]) (bx' := []) (by simp only [hl41]) rfl ?_
 refine oe (JE_fall (vs := []) (by kernel_rfl) (fun γ w hs => ?_))
 rw [← sI h40]
 exact hs.turned (is := [0]) rfl

theorem c_slices_symMergeCmpFunc_int__impl_Allocate_1 (fuel : Nat) : ∀ {W : World} {x0 : List Int} {a0_0 : Option Addr} {c0_0 : Nat} {e0_0 : TypeId} {x1 : Int} {x2 : Int} {x3 : Int} {g4_0 : Nat} {z4_0 : Int} {g4_1 : Nat} {z4_1 : List Int} {g4_2 : Nat} {z4_2 : Int} {r : (List Int)} (h : slices_symMergeCmpFunc_int__impl_Allocate_1 fuel x0 x1 x2 x3 z4_0 z4_1 z4_2 = some r) ,
    GivesMQ Try.prog (fun w => ∀ (q0 : Int) (q1 : Int) (r : Int), impl_Allocate_1 q0 q1 z4_0 z4_1 z4_2 = some r → Gives0 Try.prog 35 #[.int .i64 q0, .int .i64 q1, .pointer (some ⟨g4_0, 0, none⟩), .pointer (some ⟨g4_1, 0, none⟩), .pointer (some ⟨g4_2, 0, none⟩)] w (.int .i64 r)) 44 #[.slice a0_0 x0.length c0_0, .int .i64 x1, .int .i64 x2, .int .i64 x3, .func (.func 35) #[] #[.pointer (some ⟨g4_0, 0, none⟩), .pointer (some ⟨g4_1, 0, none⟩), .pointer (some ⟨g4_2, 0, none⟩)]] W [SlRes e0_0 x0 a0_0 c0_0] [SlRes e0_0 r a0_0 c0_0] (.tuple #[]) := by
 induction fuel with
 | zero =>
  intro W x0 a0_0 c0_0 e0_0 x1 x2 x3 g4_0 z4_0 g4_1 z4_1 g4_2 z4_2 r h
  cases (show (none : Option ((List Int))) = some r from h)
 | succ fuel ih =>
  intro W x0 a0_0 c0_0 e0_0 x1 x2 x3 g4_0 z4_0 g4_1 z4_1 g4_2 z4_2 r h
  have h : slices_symMergeCmpFunc_int__impl_Allocate_1_step (slices_symMergeCmpFunc_int__impl_Allocate_1 fuel) x0 x1 x2 x3 z4_0 z4_1 z4_2 = some r := h
  unfold slices_symMergeCmpFunc_int__impl_Allocate_1_step at h
  refine enterMQ [.v (.slice a0_0 x0.length c0_0), vi x1, vi x2, vi x3, .v (.func (.func 35) #[] #[.pointer (some ⟨g4_0, 0, none⟩), .pointer (some ⟨g4_1, 0, none⟩), .pointer (some ⟨g4_2, 0, none⟩)])] (args := [.slice a0_0 x0.length c0_0, .int .i64 x1, .int .i64 x2, .int .i64 x3, .func (.func 35) #[] #[.pointer (some ⟨g4_0, 0, none⟩), .pointer (some ⟨g4_1, 0, none⟩), .pointer (some ⟨g4_2, 0, none⟩)]]) (by kernel_rfl) (by kernel_rfl) Try.func44 rfl Try.ntmps44 (by kernel_rfl) (fun Fs hq => ?_)
  refine qs (qs (qr (oN 4 [(28, vb ((w64 (x2 - x1)) == 1))] [0, 1, 2, 3, 4] ?_)))
  refine oe (nt (cC h (fun h90 => ?_) (fun h91 => ?_)))
  · refine qs (qr (oN 2 [(10, vi x2)] [0, 1, 3, 4] ?_))
    refine oe (nt (qs (qr (oN 2 [(11, vi x3)] [10, 0, 1, 4] ?_))))
    refine oe (nt (qs ?_))
    obtain ⟨r95, hL96, h97⟩ := bS h90
    obtain ⟨k98, hk99, h97⟩ := brkS h97
    refine JC_cutP (τ := (Int) × (Unit)) (fun y => k98 y.1 = some r) (fun y103 => [(10, vi y103.1), (0, .v (.slice a0_0 x0.length c0_0)), (1, vi x1), (4, .v (.func (.func 35) #[] #[.pointer (some ⟨g4_0, 0, none⟩), .pointer (some ⟨g4_1, 0, none⟩), .pointer (some ⟨g4_2, 0, none⟩)]))]) (fun y103 => []) (fun y103 => [SlRes e0_0 x0 a0_0 c0_0]) ?_ (fun y103 h104p => ?_)
    · refine qb (lp Unit hL96 (fun s92 y93 => [(11, vi s92.1), (10, vi s92.2), (0, .v (.slice a0_0 x0.length c0_0)), (1, vi x1), (4, .v (.func (.func 35) #[] #[.pointer (some ⟨g4_0, 0, none⟩), .pointer (some ⟨g4_1, 0, none⟩), .pointer (some ⟨g4_2, 0, none⟩)]))]) (fun s92 y93 => []) (fun s92 y93 => [SlRes e0_0 x0 a0_0 c0_0]) () [11, 10, 0, 1, 4] [0] 0 (fun s92 y93 t94 h100 hd101 => ?_))
      refine qs (qs (qr (oN 3 [(33, vb (decide (s92.2 < s92.1)))] [11, 10, 0, 1, 4] ?_)))
      refine oe (nt (cC h100 (fun h144 => ?_) (fun h145 => ?_)))
      · refine qk (nt (qb (qs (qr (oN 7 [(12, vi (w64 (Int.fdiv (wu64 (w64 (s92.2 + s92.1))) 2)))] [11, 10, 0, 1, 4] ?_)))))
        refine oe (nt (qs (JC_quiet (by kernel_rfl) (by kernel_rfl) ?_)))
        refine qN 3 [(42, vi (w64 (Int.fdiv (wu64 (w64 (s92.2 + s92.1))) 2))), (41, .v (.slice a0_0 x0.length c0_0)), (40, .v (.func (.func 35) #[] #[.pointer (some ⟨g4_0, 0, none⟩), .pointer (some ⟨g4_1, 0, none⟩), .pointer (some ⟨g4_2, 0, none⟩)]))] [12, 11, 10, 0, 1, 4] ?_
        obtain ⟨x146, hx147, h148⟩ := bS h144
        refine qi 1 (fun γ w hs => (hs.view 0 rfl)) hx147 ?_
        refine ql 3 0 (.int .i64 x146) (fun γ w hs => (hs.view 0 rfl).flatq hx147) ?_
        refine qN 2 [(46, vi x1), (45, .v (.slice a0_0 x0.length c0_0))] [44, 40, 12, 11, 10, 0, 1, 4] ?_
        obtain ⟨x149, hx150, h151⟩ := bS h148
        refine qi 1 (fun γ w hs => (hs.view 0 rfl)) hx150 ?_
        refine ql 3 0 (.int .i64 x149) (fun γ w hs => (hs.view 0 rfl).flatq hx150) ?_
        obtain ⟨t152, h153, h154⟩ := bS h151
        refine q0 (fun γ w hs => hq w hs.kept _ _ _ h153) ?_
        refine qN 1 [(50, vb (decide (t152 < 0)))] [12, 11, 10, 0, 1, 4] ?_
        refine qz (nt (cC h154 (fun h157 => ?_) (fun h158 => ?_)))
        · refine qr (oN 3 [(10, vi (w64 ((w64 (Int.fdiv (wu64 (w64 (s92.2 + s92.1))) 2)) + 1)))] [11, 0, 1, 4] ?_)
          exact oe (bn (ct h157 () [11, 10, 0, 1, 4] [0] 0))
        refine qr (oN 2 [(11, vi (w64 (Int.fdiv (wu64 (w64 (s92.2 + s92.1))) 2)))] [10, 0, 1, 4] ?_)
        exact oe (bn (ct h158 () [11, 10, 0, 1, 4] [0] 0))
      refine qx (nx (nx (bh ?_)))
      have h159 := leafB hd101 h145 h97
      exact mp (s92.2, ()) h159 [10, 0, 1, 4] [0] 0
    have h104 := (congrFun hk99 _).symm.trans h104p
    refine nt (qs (qs (qr (oN 2 [(13, vi x1)] [10, 0, 4] ?_))))
    refine oe (nt ?_)
    obtain ⟨r108, hL109, h110⟩ := bS h104
    obtain ⟨k111, hk112, h110⟩ := brkS h110
    refine JC_cutP (τ := ((List Int)) × (Unit)) (fun y => k111 y.1 = some r) (fun y116 => [(0, .v (.slice a0_0 y116.1.length c0_0)), (4, .v (.func (.func 35) #[] #[.pointer (some ⟨g4_0, 0, none⟩), .pointer (some ⟨g4_1, 0, none⟩), .pointer (some ⟨g4_2, 0, none⟩)]))]) (fun y116 => []) (fun y116 => [SlRes e0_0 y116.1 a0_0 c0_0]) ?_ (fun y116 h117p => ?_)
    · refine qb (lp Unit hL109 (fun s105 y106 => [(13, vi s105.1), (10, vi y103.1), (0, .v (.slice a0_0 s105.2.length c0_0)), (4, .v (.func (.func 35) #[] #[.pointer (some ⟨g4_0, 0, none⟩), .pointer (some ⟨g4_1, 0, none⟩), .pointer (some ⟨g4_2, 0, none⟩)]))]) (fun s105 y106 => []) (fun s105 y106 => [SlRes e0_0 s105.2 a0_0 c0_0]) () [13, 10, 0, 4] [0] 0 (fun s105 y106 t107 h113 hd114 => ?_))
      refine qs (qs (qr (oN 4 [(58, vb (decide (s105.1 < (w64 (y103.1 - 1)))))] [13, 10, 0, 4] ?_)))
      refine oe (nt (cC h113 (fun h119 => ?_) (fun h120 => ?_)))
      · refine qk (nt (qs (qb ?_)))
        obtain ⟨x121, hx122, h123⟩ := bS h119
        obtain ⟨x124, hx125, h126⟩ := bS h123
        obtain ⟨x127, hx128, h129⟩ := bS h126
        obtain ⟨l130, hm131, h132⟩ := bS h129
        replace hm131 := (sI hm131).symm
        have hl133 := len_set hm131
        obtain ⟨x134, hx135, h136⟩ := bS h132
        obtain ⟨l137, hm138, h139⟩ := bS h136
        replace hm138 := (sI hm138).symm
        have hl140 := len_set hm138
        refine JC_cut (τ := Unit) (fun _ => [(13, vi s105.1), (10, vi y103.1), (0, .v (.slice a0_0 l137.length c0_0)), (4, .v (.func (.func 35) #[] #[.pointer (some ⟨g4_0, 0, none⟩), .pointer (some ⟨g4_1, 0, none⟩), .pointer (some ⟨g4_2, 0, none⟩)]))]) (fun _ => []) (fun _ => [SlRes e0_0 l137 a0_0 c0_0]) ?_ (fun _ => ?_)
        · refine jw [13, 10, 0, 4] [0] ?_
          refine JC_heldN (ks := []) (Rk := []) 18 (by kernel_rfl) (by kernel_rfl) ?_
          refine htq 0 (.v (.slice a0_0 s105.2.length c0_0)) [] ?_
          refine htq 1 (vi s105.1) [] ?_
          refine htq 2 (.v (.slice a0_0 s105.2.length c0_0)) [] ?_
          refine htq 3 (vi s105.1) [] ?_
          refine htq 4 (vi (w64 (s105.1 + 1))) [] ?_
          refine hk [65, 63, 62, 61, 13, 10, 0, 4] ?_
          refine htq 5 (.v (.slice a0_0 s105.2.length c0_0)) [] ?_
          refine htq 6 (vi s105.1) [] ?_
          refine htq 7 (vi (w64 (s105.1 + 1))) [] ?_
          refine hk [68, 66, 65, 63, 62, 61, 13, 10, 0, 4] ?_
          refine htq 10 (.v (.slice a0_0 s105.2.length c0_0)) [] ?_
          refine htq 11 (vi s105.1) [] ?_
          refine ha2 8 12 ?_ ?_
          · refine hi (fun γ0 δ hm => ?_)
            refine JG_index (by kernel_rfl) (d := a0_0) (m := s105.2.length) (j := (w64 (s105.1 + 1))) (s := 1) (by kernel_rfl) (fun w hs => (hs.view 0 rfl)) rfl hx122 rfl ?_
            refine gn hm [69, 72, 71, 65, 63, 62, 61, 13, 10, 0, 4] [] ?_
            refine ha2 9 12 ?_ ?_
            · refine hi (fun γ0 δ hm => ?_)
              refine JG_loadq (by kernel_rfl) (t := 3) (d := a0_0) (Int.toNat (w64 (s105.1 + 1)) * 1) 0 (by kernel_rfl) (cs := [.int .i64 x121]) (v := .int .i64 x121) (fun w hs => (hs.view 0 rfl).flatq hx122) (by kernel_rfl) rfl ?_
              refine gn hm [70, 72, 71, 65, 63, 62, 61, 13, 10, 0, 4] [] ?_
              refine ha1 12 ?_
              refine hi (fun γ0 δ hm => ?_)
              refine JG_index (by kernel_rfl) (d := a0_0) (m := s105.2.length) (j := s105.1) (s := 1) (by kernel_rfl) (fun w hs => (hs.view 0 rfl)) rfl hx125 rfl ?_
              refine gn hm [73, 70, 65, 63, 62, 61, 13, 10, 0, 4] [] ?_
              refine ha1 13 ?_
              refine hi (fun γ0 δ hm => ?_)
              refine JG_loadq (by kernel_rfl) (t := 3) (d := a0_0) (Int.toNat s105.1 * 1) 0 (by kernel_rfl) (cs := [.int .i64 x124]) (v := .int .i64 x124) (fun w hs => (hs.view 0 rfl).flatq hx125) (by kernel_rfl) rfl ?_
              refine gn hm [74, 70, 65, 63, 62, 61, 13, 10, 0, 4] [] ?_
              refine ha1 14 ?_
              refine hi (fun γ0 δ hm => ?_)
              refine JG_index (by kernel_rfl) (d := a0_0) (m := s105.2.length) (j := s105.1) (s := 1) (by kernel_rfl) (fun w hs => (hs.view 0 rfl)) rfl hx128 rfl ?_
              refine gn hm [75, 74, 70, 65, 63, 13, 10, 0, 4] [] ?_
              refine ha1 15 ?_
              refine hi (fun γ0 δ hm => ?_)
              refine JG_storeq (α := Int) (d := a0_0) (vs := [.int .i64 x121]) (j := s105.1) (x' := x121) (by kernel_rfl) 0 (by kernel_rfl) hx128 (Rc := []) (Rr := []) rfl (by kernel_rfl) (fun w c F Fs ho _ _ => own_flat_set (by kernel_rfl) ho) hm131 (sl' := [(75, .q a0_0 (Int.toNat s105.1 * 1)), (74, vi x124), (70, vi x121), (65, vi (w64 (s105.1 + 1))), (63, .v (.slice a0_0 s105.2.length c0_0)), (13, vi s105.1), (10, vi y103.1), (0, .v (.slice a0_0 s105.2.length c0_0)), (4, .v (.func (.func 35) #[] #[.pointer (some ⟨g4_0, 0, none⟩), .pointer (some ⟨g4_1, 0, none⟩), .pointer (some ⟨g4_2, 0, none⟩)]))]) (by kernel_rfl) ?_
              refine KG_eqE (sl' := [(75, .q a0_0 (Int.toNat s105.1 * 1)), (74, vi x124), (70, vi x121), (65, vi (w64 (s105.1 + 1))), (63, .v (.slice a0_0 l130.length c0_0)), (13, vi s105.1), (10, vi y103.1), (0, .v (.slice a0_0 l130.length c0_0)), (4, .v (.func (.func 35) #[] #[.pointer (some ⟨g4_0, 0, none⟩), .pointer (some ⟨g4_1, 0, none⟩), .pointer (some ⟨g4_2, 0, none⟩)]))]) (bx' := []) (by simp only [hl133]) rfl ?_
              refine gn hm [74, 65, 63, 13, 10, 0, 4] [] ?_
              refine ha1 16 ?_
              refine hi (fun γ0 δ hm => ?_)
              refine JG_index (by kernel_rfl) (d := a0_0) (m := l130.length) (j := (w64 (s105.1 + 1))) (s := 1) (by kernel_rfl) (fun w hs => (hs.view 0 rfl)) rfl hx135 rfl ?_
              refine gn hm [76, 74, 13, 10, 0, 4] [] ?_
              refine ha1 17 ?_
              refine hi (fun γ0 δ hm => ?_)
              refine JG_storeq (α := Int) (d := a0_0) (vs := [.int .i64 x124]) (j := (w64 (s105.1 + 1))) (x' := x124) (by kernel_rfl) 0 (by kernel_rfl) hx135 (Rc := []) (Rr := []) rfl (by kernel_rfl) (fun w c F Fs ho _ _ => own_flat_set (by kernel_rfl) ho) hm138 (sl' := [(76, .q a0_0 (Int.toNat (w64 (s105.1 + 1)) * 1)), (74, vi x124), (13, vi s105.1), (10, vi y103.1), (0, .v (.slice a0_0 l130.length c0_0)), (4, .v (.func (.func 35) #[] #[.pointer (some ⟨g4_0, 0, none⟩), .pointer (some ⟨g4_1, 0, none⟩), .pointer (some ⟨g4_2, 0, none⟩)]))]) (by kernel_rfl) ?_
              refine KG_eqE (sl' := [(76, .q a0_0 (Int.toNat (w64 (s105.1 + 1)) * 1)), (74, vi x124), (13, vi s105.1), (10, vi y103.1), (0, .v (.slice a0_0 l137.length c0_0)), (4, .v (.func (.func 35) #[] #[.pointer (some ⟨g4_0, 0, none⟩), .pointer (some ⟨g4_1, 0, none⟩), .pointer (some ⟨g4_2, 0, none⟩)]))]) (bx' := []) (by simp only [hl140]) rfl ?_
              refine gn hm [13, 10, 0, 4] [] ?_
              exact hd () [13, 10, 0, 4] [0] 0
            · refine hi (fun γ0 δ hm => ?_)
              refine JG_index (by kernel_rfl) (d := a0_0) (m := s105.2.length) (j := s105.1) (s := 1) (by kernel_rfl) (fun w hs => (hs.view 0 rfl)) rfl hx125 rfl ?_
              refine gn hm [73, 69, 65, 63, 62, 61, 13, 10, 0, 4] [] ?_
              refine ha2 9 13 ?_ ?_
              · refine hi (fun γ0 δ hm => ?_)
                refine JG_loadq (by kernel_rfl) (t := 3) (d := a0_0) (Int.toNat (w64 (s105.1 + 1)) * 1) 0 (by kernel_rfl) (cs := [.int .i64 x121]) (v := .int .i64 x121) (fun w hs => (hs.view 0 rfl).flatq hx122) (by kernel_rfl) rfl ?_
                refine gn hm [70, 73, 65, 63, 62, 61, 13, 10, 0, 4] [] ?_
                refine ha1 13 ?_
                refine hi (fun γ0 δ hm => ?_)
                refine JG_loadq (by kernel_rfl) (t := 3) (d := a0_0) (Int.toNat s105.1 * 1) 0 (by kernel_rfl) (cs := [.int .i64 x124]) (v := .int .i64 x124) (fun w hs => (hs.view 0 rfl).flatq hx125) (by kernel_rfl) rfl ?_
                refine gn hm [74, 70, 65, 63, 62, 61, 13, 10, 0, 4] [] ?_
                refine ha1 14 ?_
                refine hi (fun γ0 δ hm => ?_)
                refine JG_index (by kernel_rfl) (d := a0_0) (m := s105.2.length) (j := s105.1) (s := 1) (by kernel_rfl) (fun w hs => (hs.view 0 rfl)) rfl hx128 rfl ?_
                refine gn hm [75, 74, 70, 65, 63, 13, 10, 0, 4] [] ?_
                refine ha1 15 ?_
                refine hi (fun γ0 δ hm => ?_)
                refine JG_storeq (α := Int) (d := a0_0) (vs := [.int .i64 x121]) (j := s105.1) (x' := x121) (by kernel_rfl) 0 (by kernel_rfl) hx128 (Rc := []) (Rr := []) rfl (by kernel_rfl) (fun w c F Fs ho _ _ => own_flat_set (by kernel_rfl) ho) hm131 (sl' := [(75, .q a0_0 (Int.toNat s105.1 * 1)), (74, vi x124), (70, vi x121), (65, vi (w64 (s105.1 + 1))), (63, .v (.slice a0_0 s105.2.length c0_0)), (13, vi s105.1), (10, vi y103.1), (0, .v (.slice a0_0 s105.2.length c0_0)), (4, .v (.func (.func 35) #[] #[.pointer (some ⟨g4_0, 0, none⟩), .pointer (some ⟨g4_1, 0, none⟩), .pointer (some ⟨g4_2, 0, none⟩)]))]) (by kernel_rfl) ?_
                refine KG_eqE (sl' := [(75, .q a0_0 (Int.toNat s105.1 * 1)), (74, vi x124), (70, vi x121), (65, vi (w64 (s105.1 + 1))), (63, .v (.slice a0_0 l130.length c0_0)), (13, vi s105.1), (10, vi y103.1), (0, .v (.slice a0_0 l130.length c0_0)), (4, .v (.func (.func 35) #[] #[.pointer (some ⟨g4_0, 0, none⟩), .pointer (some ⟨g4_1, 0, none⟩), .pointer (some ⟨g4_2, 0, none⟩)]))]) (bx' := []) (by simp only [hl133]) rfl ?_
                refine gn hm [74, 65, 63, 13, 10, 0, 4] [] ?_
                refine ha1 16 ?_
                refine hi (fun γ0 δ hm => ?_)
                refine JG_index (by kernel_rfl) (d := a0_0) (m := l130.length) (j := (w64 (s105.1 + 1))) (s := 1) (by kernel_rfl) (fun w hs => (hs.view 0 rfl)) rfl hx135 rfl ?_
                refine gn hm [76, 74, 13, 10, 0, 4] [] ?_
                refine ha1 17 ?_
                refine hi (fun γ0 δ hm => ?_)
                refine JG_storeq (α := Int) (d := a0_0) (vs := [.int .i64 x124]) (j := (w64 (s105.1 + 1))) (x' := x124) (by kernel_rfl) 0 (by kernel_rfl) hx135 (Rc := []) (Rr := []) rfl (by kernel_rfl) (fun w c F Fs ho _ _ => own_flat_set (by kernel_rfl) ho) hm138 (sl' := [(76, .q a0_0 (Int.toNat (w64 (s105.1 + 1)) * 1)), (74, vi x124), (13, vi s105.1), (10, vi y103.1), (0, .v (.slice a0_0 l130.length c0_0)), (4, .v (.func (.func 35) #[] #[.pointer (some ⟨g4_0, 0, none⟩), .pointer (some ⟨g4_1, 0, none⟩), .pointer (some ⟨g4_2, 0, none⟩)]))]) (by kernel_rfl) ?_
                refine KG_eqE (sl' := [(76, .q a0_0 (Int.toNat (w64 (s105.1 + 1)) * 1)), (74, vi x124), (13, vi s105.1), (10, vi y103.1), (0, .v (.slice a0_0 l137.length c0_0)), (4, .v (.func (.func 35) #[] #[.pointer (some ⟨g4_0, 0, none⟩), .pointer (some ⟨g4_1, 0, none⟩), .pointer (some ⟨g4_2, 0, none⟩)]))]) (bx' := []) (by simp only [hl140]) rfl ?_
                refine gn hm [13, 10, 0, 4] [] ?_
                exact hd () [13, 10, 0, 4] [0] 0
              · refine hi (fun γ0 δ hm => ?_)
                refine JG_loadq (by kernel_rfl) (t := 3) (d := a0_0) (Int.toNat s105.1 * 1) 0 (by kernel_rfl) (cs := [.int .i64 x124]) (v := .int .i64 x124) (fun w hs => (hs.view 0 rfl).flatq hx125) (by kernel_rfl) rfl ?_
                refine gn hm [74, 69, 65, 63, 62, 61, 13, 10, 0, 4] [] ?_
                refine ha1 9 ?_
                refine hi (fun γ0 δ hm => ?_)
                refine JG_loadq (by kernel_rfl) (t := 3) (d := a0_0) (Int.toNat (w64 (s105.1 + 1)) * 1) 0 (by kernel_rfl) (cs := [.int .i64 x121]) (v := .int .i64 x121) (fun w hs => (hs.view 0 rfl).flatq hx122) (by kernel_rfl) rfl ?_
                refine gn hm [70, 74, 65, 63, 62, 61, 13, 10, 0, 4] [] ?_
                refine ha1 14 ?_
                refine hi (fun γ0 δ hm => ?_)
                refine JG_index (by kernel_rfl) (d := a0_0) (m := s105.2.length) (j := s105.1) (s := 1) (by kernel_rfl) (fun w hs => (hs.view 0 rfl)) rfl hx128 rfl ?_
                refine gn hm [75, 70, 74, 65, 63, 13, 10, 0, 4] [] ?_
                refine ha1 15 ?_
                refine hi (fun γ0 δ hm => ?_)
                refine JG_storeq (α := Int) (d := a0_0) (vs := [.int .i64 x121]) (j := s105.1) (x' := x121) (by kernel_rfl) 0 (by kernel_rfl) hx128 (Rc := []) (Rr := []) rfl (by kernel_rfl) (fun w c F Fs ho _ _ => own_flat_set (by kernel_rfl) ho) hm131 (sl' := [(75, .q a0_0 (Int.toNat s105.1 * 1)), (70, vi x121), (74, vi x124), (65, vi (w64 (s105.1 + 1))), (63, .v (.slice a0_0 s105.2.length c0_0)), (13, vi s105.1), (10, vi y103.1), (0, .v (.slice a0_0 s105.2.length c0_0)), (4, .v (.func (.func 35) #[] #[.pointer (some ⟨g4_0, 0, none⟩), .pointer (some ⟨g4_1, 0, none⟩), .pointer (some ⟨g4_2, 0, none⟩)]))]) (by kernel_rfl) ?_
                refine KG_eqE (sl' := [(75, .q a0_0 (Int.toNat s105.1 * 1)), (70, vi x121), (74, vi x124), (65, vi (w64 (s105.1 + 1))), (63, .v (.slice a0_0 l130.length c0_0)), (13, vi s105.1), (10, vi y103.1), (0, .v (.slice a0_0 l130.length c0_0)), (4, .v (.func (.func 35) #[] #[.pointer (some ⟨g4_0, 0, none⟩), .pointer (some ⟨g4_1, 0, none⟩), .pointer (some ⟨g4_2, 0, none⟩)]))]) (bx' := []) (by simp only [hl133]) rfl ?_
                refine gn hm [74, 65, 63, 13, 10, 0, 4] [] ?_
                refine ha1 16 ?_
                refine hi (fun γ0 δ hm => ?_)
                refine JG_index (by kernel_rfl) (d := a0_0) (m := l130.length) (j := (w64 (s105.1 + 1))) (s := 1) (by kernel_rfl) (fun w hs => (hs.view 0 rfl)) rfl hx135 rfl ?_
                refine gn hm [76, 74, 13, 10, 0, 4] [] ?_
                refine ha1 17 ?_
                refine hi (fun γ0 δ hm => ?_)
                refine JG_storeq (α := Int) (d := a0_0) (vs := [.int .i64 x124]) (j := (w64 (s105.1 + 1))) (x' := x124) (by kernel_rfl) 0 (by kernel_rfl) hx135 (Rc := []) (Rr := []) rfl (by kernel_rfl) (fun w c F Fs ho _ _ => own_flat_set (by kernel_rfl) ho) hm138 (sl' := [(76, .q a0_0 (Int.toNat (w64 (s105.1 + 1)) * 1)), (74, vi x124), (13, vi s105.1), (10, vi y103.1), (0, .v (.slice a0_0 l130.length c0_0)), (4, .v (.func (.func 35) #[] #[.pointer (some ⟨g4_0, 0, none⟩), .pointer (some ⟨g4_1, 0, none⟩), .pointer (some ⟨g4_2, 0, none⟩)]))]) (by kernel_rfl) ?_
                refine KG_eqE (sl' := [(76, .q a0_0 (Int.toNat (w64 (s105.1 + 1)) * 1)), (74, vi x124), (13, vi s105.1), (10, vi y103.1), (0, .v (.slice a0_0 l137.length c0_0)), (4, .v (.func (.func 35) #[] #[.pointer (some ⟨g4_0, 0, none⟩), .pointer (some ⟨g4_1, 0, none⟩), .pointer (some ⟨g4_2, 0, none⟩)]))]) (bx' := []) (by simp only [hl140]) rfl ?_
                refine gn hm [13, 10, 0, 4] [] ?_
                exact hd () [13, 10, 0, 4] [0] 0
          · refine hi (fun γ0 δ hm => ?_)
            refine JG_index (by kernel_rfl) (d := a0_0) (m := s105.2.length) (j := s105.1) (s := 1) (by kernel_rfl) (fun w hs => (hs.view 0 rfl)) rfl hx125 rfl ?_
            refine gn hm [73, 68, 66, 65, 63, 62, 61, 13, 10, 0, 4] [] ?_
            refine ha2 8 13 ?_ ?_
            · refine hi (fun γ0 δ hm => ?_)
              refine JG_index (by kernel_rfl) (d := a0_0) (m := s105.2.length) (j := (w64 (s105.1 + 1))) (s := 1) (by kernel_rfl) (fun w hs => (hs.view 0 rfl)) rfl hx122 rfl ?_
              refine gn hm [69, 73, 65, 63, 62, 61, 13, 10, 0, 4] [] ?_
              refine ha2 9 13 ?_ ?_
              · refine hi (fun γ0 δ hm => ?_)
                refine JG_loadq (by kernel_rfl) (t := 3) (d := a0_0) (Int.toNat (w64 (s105.1 + 1)) * 1) 0 (by kernel_rfl) (cs := [.int .i64 x121]) (v := .int .i64 x121) (fun w hs => (hs.view 0 rfl).flatq hx122) (by kernel_rfl) rfl ?_
                refine gn hm [70, 73, 65, 63, 62, 61, 13, 10, 0, 4] [] ?_
                refine ha1 13 ?_
                refine hi (fun γ0 δ hm => ?_)
                refine JG_loadq (by kernel_rfl) (t := 3) (d := a0_0) (Int.toNat s105.1 * 1) 0 (by kernel_rfl) (cs := [.int .i64 x124]) (v := .int .i64 x124) (fun w hs => (hs.view 0 rfl).flatq hx125) (by kernel_rfl) rfl ?_
                refine gn hm [74, 70, 65, 63, 62, 61, 13, 10, 0, 4] [] ?_
                refine ha1 14 ?_
                refine hi (fun γ0 δ hm => ?_)
                refine JG_index (by kernel_rfl) (d := a0_0) (m := s105.2.length) (j := s105.1) (s := 1) (by kernel_rfl) (fun w hs => (hs.view 0 rfl)) rfl hx128 rfl ?_
                refine gn hm [75, 74, 70, 65, 63, 13, 10, 0, 4] [] ?_
                refine ha1 15 ?_
                refine hi (fun γ0 δ hm => ?_)
                refine JG_storeq (α := Int) (d := a0_0) (vs := [.int .i64 x121]) (j := s105.1) (x' := x121) (by kernel_rfl) 0 (by kernel_rfl) hx128 (Rc := []) (Rr := []) rfl (by kernel_rfl) (fun w c F Fs ho _ _ => own_flat_set (by kernel_rfl) ho) hm131 (sl' := [(75, .q a0_0 (Int.toNat s105.1 * 1)), (74, vi x124), (70, vi x121), (65, vi (w64 (s105.1 + 1))), (63, .v (.slice a0_0 s105.2.length c0_0)), (13, vi s105.1), (10, vi y103.1), (0, .v (.slice a0_0 s105.2.length c0_0)), (4, .v (.func (.func 35) #[] #[.pointer (some ⟨g4_0, 0, none⟩), .pointer (some ⟨g4_1, 0, none⟩), .pointer (some ⟨g4_2, 0, none⟩)]))]) (by kernel_rfl) ?_
                refine KG_eqE (sl' := [(75, .q a0_0 (Int.toNat s105.1 * 1)), (74, vi x124), (70, vi x121), (65, vi (w64 (s105.1 + 1))), (63, .v (.slice a0_0 l130.length c0_0)), (13, vi s105.1), (10, vi y103.1), (0, .v (.slice a0_0 l130.length c0_0)), (4, .v (.func (.func 35) #[] #[.pointer (some ⟨g4_0, 0, none⟩), .pointer (some ⟨g4_1, 0, none⟩), .pointer (some ⟨g4_2, 0, none⟩)]))]) (bx' := []) (by simp only [hl133]) rfl ?_
                refine gn hm [74, 65, 63, 13, 10, 0, 4] [] ?_
                refine ha1 16 ?_
                refine hi (fun γ0 δ hm => ?_)
                refine JG_index (by kernel_rfl) (d := a0_0) (m := l130.length) (j := (w64 (s105.1 + 1))) (s := 1) (by kernel_rfl) (fun w hs => (hs.view 0 rfl)) rfl hx135 rfl ?_
                refine gn hm [76, 74, 13, 10, 0, 4] [] ?_
                refine ha1 17 ?_
                refine hi (fun γ0 δ hm => ?_)
                refine JG_storeq (α := Int) (d := a0_0) (vs := [.int .i64 x124]) (j := (w64 (s105.1 + 1))) (x' := x124) (by kernel_rfl) 0 (by kernel_rfl) hx135 (Rc := []) (Rr := []) rfl (by kernel_rfl) (fun w c F Fs ho _ _ => own_flat_set (by kernel_rfl) ho) hm138 (sl' := [(76, .q a0_0 (Int.toNat (w64 (s105.1 + 1)) * 1)), (74, vi x124), (13, vi s105.1), (10, vi y103.1), (0, .v (.slice a0_0 l130.length c0_0)), (4, .v (.func (.func 35) #[] #[.pointer (some ⟨g4_0, 0, none⟩), .pointer (some ⟨g4_1, 0, none⟩), .pointer (some ⟨g4_2, 0, none⟩)]))]) (by kernel_rfl) ?_
                refine KG_eqE (sl' := [(76, .q a0_0 (Int.toNat (w64 (s105.1 + 1)) * 1)), (74, vi x124), (13, vi s105.1), (10, vi y103.1), (0, .v (.slice a0_0 l137.length c0_0)), (4, .v (.func (.func 35) #[] #[.pointer (some ⟨g4_0, 0, none⟩), .pointer (some ⟨g4_1, 0, none⟩), .pointer (some ⟨g4_2, 0, none⟩)]))]) (bx' := []) (by simp only [hl140]) rfl ?_
                refine gn hm [13, 10, 0, 4] [] ?_
                exact hd () [13, 10, 0, 4] [0] 0
              · refine hi (fun γ0 δ hm => ?_)
                refine JG_loadq (by kernel_rfl) (t := 3) (d := a0_0) (Int.toNat s105.1 * 1) 0 (by kernel_rfl) (cs := [.int .i64 x124]) (v := .int .i64 x124) (fun w hs => (hs.view 0 rfl).flatq hx125) (by kernel_rfl) rfl ?_
                refine gn hm [74, 69, 65, 63, 62, 61, 13, 10, 0, 4] [] ?_
                refine ha1 9 ?_
                refine hi (fun γ0 δ hm => ?_)
                refine JG_loadq (by kernel_rfl) (t := 3) (d := a0_0) (Int.toNat (w64 (s105.1 + 1)) * 1) 0 (by kernel_rfl) (cs := [.int .i64 x121]) (v := .int .i64 x121) (fun w hs => (hs.view 0 rfl).flatq hx122) (by kernel_rfl) rfl ?_
                refine gn hm [70, 74, 65, 63, 62, 61, 13, 10, 0, 4] [] ?_
                refine ha1 14 ?_
                refine hi (fun γ0 δ hm => ?_)
                refine JG_index (by kernel_rfl) (d := a0_0) (m := s105.2.length) (j := s105.1) (s := 1) (by kernel_rfl) (fun w hs => (hs.view 0 rfl)) rfl hx128 rfl ?_
                refine gn hm [75, 70, 74, 65, 63, 13, 10, 0, 4] [] ?_
                refine ha1 15 ?_
                refine hi (fun γ0 δ hm => ?_)
                refine JG_storeq (α := Int) (d := a0_0) (vs := [.int .i64 x121]) (j := s105.1) (x' := x121) (by kernel_rfl) 0 (by kernel_rfl) hx128 (Rc := []) (Rr := []) rfl (by kernel_rfl) (fun w c F Fs ho _ _ => own_flat_set (by kernel_rfl) ho) hm131 (sl' := [(75, .q a0_0 (Int.toNat s105.1 * 1)), (70, vi x121), (74, vi x124), (65, vi (w64 (s105.1 + 1))), (63, .v (.slice a0_0 s105.2.length c0_0)), (13, vi s105.1), (10, vi y103.1), (0, .v (.slice a0_0 s105.2.length c0_0)), (4, .v (.func (.func 35) #[] #[.pointer (some ⟨g4_0, 0, none⟩), .pointer (some ⟨g4_1, 0, none⟩), .pointer (some ⟨g4_2, 0, none⟩)]))]) (by kernel_rfl) ?_
                refine KG_eqE (sl' := [(75, .q a0_0 (Int.toNat s105.1 * 1)), (70, vi x121), (74, vi x124), (65, vi (w64 (s105.1 + 1))), (63, .v (.slice a0_0 l130.length c0_0)), (13, vi s105.1), (10, vi y103.1), (0, .v (.slice a0_0 l130.length c0_0)), (4, .v (.func (.func 35) #[] #[.pointer (some ⟨g4_0, 0, none⟩), .pointer (some ⟨g4_1, 0, none⟩), .pointer (some ⟨g4_2, 0, none⟩)]))]) (bx' := []) (by simp only [hl133]) rfl ?_
                refine gn hm [74, 65, 63, 13, 10, 0, 4] [] ?_
                refine ha1 16 ?_
                refine hi (fun γ0 δ hm => ?_)
                refine JG_index (by kernel_rfl) (d := a0_0) (m := l130.length) (j := (w64 (s105.1 + 1))) (s := 1) (by kernel_rfl) (fun w hs => (hs.view 0 rfl)) rfl hx135 rfl ?_
                refine gn hm [76, 74, 13, 10, 0, 4] [] ?_
                refine ha1 17 ?_
                refine hi (fun γ0 δ hm => ?_)
                refine JG_storeq (α := Int) (d := a0_0) (vs := [.int .i64 x124]) (j := (w64 (s105.1 + 1))) (x' := x124) (by kernel_rfl) 0 (by kernel_rfl) hx135 (Rc := []) (Rr := []) rfl (by kernel_rfl) (fun w c F Fs ho _ _ => own_flat_set (by kernel_rfl) ho) hm138 (sl' := [(76, .q a0_0 (Int.toNat (w64 (s105.1 + 1)) * 1)), (74, vi x124), (13, vi s105.1), (10, vi y103.1), (0, .v (.slice a0_0 l130.length c0_0)), (4, .v (.func (.func 35) #[] #[.pointer (some ⟨g4_0, 0, none⟩), .pointer (some ⟨g4_1, 0, none⟩), .pointer (some ⟨g4_2, 0, none⟩)]))]) (by kernel_rfl) ?_
                refine KG_eqE (sl' := [(76, .q a0_0 (Int.toNat (w64 (s105.1 + 1)) * 1)), (74, vi x124), (13, vi s105.1), (10, vi y103.1), (0, .v (.slice a0_0 l137.length c0_0)), (4, .v (.func (.func 35) #[] #[.pointer (some ⟨g4_0, 0, none⟩), .pointer (some ⟨g4_1, 0, none⟩), .pointer (some ⟨g4_2, 0, none⟩)]))]) (bx' := []) (by simp only [hl140]) rfl ?_
                refine gn hm [13, 10, 0, 4] [] ?_
                exact hd () [13, 10, 0, 4] [0] 0
            · refine hi (fun γ0 δ hm => ?_)
              refine JG_loadq (by kernel_rfl) (t := 3) (d := a0_0) (Int.toNat s105.1 * 1) 0 (by kernel_rfl) (cs := [.int .i64 x124]) (v := .int .i64 x124) (fun w hs => (hs.view 0 rfl).flatq hx125) (by kernel_rfl) rfl ?_
              refine gn hm [74, 68, 66, 65, 63, 62, 61, 13, 10, 0, 4] [] ?_
              refine ha1 8 ?_
              refine hi (fun γ0 δ hm => ?_)
              refine JG_index (by kernel_rfl) (d := a0_0) (m := s105.2.length) (j := (w64 (s105.1 + 1))) (s := 1) (by kernel_rfl) (fun w hs => (hs.view 0 rfl)) rfl hx122 rfl ?_
              refine gn hm [69, 74, 65, 63, 62, 61, 13, 10, 0, 4] [] ?_
              refine ha1 9 ?_
              refine hi (fun γ0 δ hm => ?_)
              refine JG_loadq (by kernel_rfl) (t := 3) (d := a0_0) (Int.toNat (w64 (s105.1 + 1)) * 1) 0 (by kernel_rfl) (cs := [.int .i64 x121]) (v := .int .i64 x121) (fun w hs => (hs.view 0 rfl).flatq hx122) (by kernel_rfl) rfl ?_
              refine gn hm [70, 74, 65, 63, 62, 61, 13, 10, 0, 4] [] ?_
              refine ha1 14 ?_
              refine hi (fun γ0 δ hm => ?_)
              refine JG_index (by kernel_rfl) (d := a0_0) (m := s105.2.length) (j := s105.1) (s := 1) (by kernel_rfl) (fun w hs => (hs.view 0 rfl)) rfl hx128 rfl ?_
              refine gn hm [75, 70, 74, 65, 63, 13, 10, 0, 4] [] ?_
              refine ha1 15 ?_
              refine hi (fun γ0 δ hm => ?_)
              refine JG_storeq (α := Int) (d := a0_0) (vs := [.int .i64 x121]) (j := s105.1) (x' := x121) (by kernel_rfl) 0 (by kernel_rfl) hx128 (Rc := []) (Rr := []) rfl (by kernel_rfl) (fun w c F Fs ho _ _ => own_flat_set (by kernel_rfl) ho) hm131 (sl' := [(75, .q a0_0 (Int.toNat s105.1 * 1)), (70, vi x121), (74, vi x124), (65, vi (w64 (s105.1 + 1))), (63, .v (.slice a0_0 s105.2.length c0_0)), (13, vi s105.1), (10, vi y103.1), (0, .v (.slice a0_0 s105.2.length c0_0)), (4, .v (.func (.func 35) #[] #[.pointer (some ⟨g4_0, 0, none⟩), .pointer (some ⟨g4_1, 0, none⟩), .pointer (some ⟨g4_2, 0, none⟩)]))]) (by kernel_rfl) ?_
              refine KG_eqE (sl' := [(75, .q a0_0 (Int.toNat s105.1 * 1)), (70, vi x121), (74, vi x124), (65, vi (w64 (s105.1 + 1))), (63, .v (.slice a0_0 l130.length c0_0)), (13, vi s105.1), (10, vi y103.1), (0, .v (.slice a0_0 l130.length c0_0)), (4, .v (.func (.func 35) #[] #[.pointer (some ⟨g4_0, 0, none⟩), .pointer (some ⟨g4_1, 0, none⟩), .pointer (some ⟨g4_2, 0, none⟩)]))]) (bx' := []) (by simp only [hl133]) rfl ?_
              refine gn hm [74, 65, 63, 13, 10, 0, 4] [] ?_
              refine ha1 16 ?_
              refine hi (fun γ0 δ hm => ?_)
              refine JG_index (by kernel_rfl) (d := a0_0) (m := l130.length) (j := (w64 (s105.1 + 1))) (s := 1) (by kernel_rfl) (fun w hs => (hs.view 0 rfl)) rfl hx135 rfl ?_
              refine gn hm [76, 74, 13, 10, 0, 4] [] ?_
              refine ha1 17 ?_
              refine hi (fun γ0 δ hm => ?_)
              refine JG_storeq (α := Int) (d := a0_0) (vs := [.int .i64 x124]) (j := (w64 (s105.1 + 1))) (x' := x124) (by kernel_rfl) 0 (by kernel_rfl) hx135 (Rc := []) (Rr := []) rfl (by kernel_rfl) (fun w c F Fs ho _ _ => own_flat_set (by kernel_rfl) ho) hm138 (sl' := [(76, .q a0_0 (Int.toNat (w64 (s105.1 + 1)) * 1)), (74, vi x124), (13, vi s105.1), (10, vi y103.1), (0, .v (.slice a0_0 l130.length c0_0)), (4, .v (.func (.func 35) #[] #[.pointer (some ⟨g4_0, 0, none⟩), .pointer (some ⟨g4_1, 0, none⟩), .pointer (some ⟨g4_2, 0, none⟩)]))]) (by kernel_rfl) ?_
              refine KG_eqE (sl' := [(76, .q a0_0 (Int.toNat (w64 (s105.1 + 1)) * 1)), (74, vi x124), (13, vi s105.1), (10, vi y103.1), (0, .v (.slice a0_0 l137.length c0_0)), (4, .v (.func (.func 35) #[] #[.pointer (some ⟨g4_0, 0, none⟩), .pointer (some ⟨g4_1, 0, none⟩), .pointer (some ⟨g4_2, 0, none⟩)]))]) (bx' := []) (by simp only [hl140]) rfl ?_
              refine gn hm [13, 10, 0, 4] [] ?_
              exact hd () [13, 10, 0, 4] [0] 0
        refine bn (nt (qr (oN 3 [(13, vi (w64 (s105.1 + 1)))] [10, 0, 4] ?_)))
        exact oe (ct h139 () [13, 10, 0, 4] [0] 0)
      refine qx (nx (nx (bh ?_)))
      have h142 := leafB hd114 h120 h110
      exact mp (s105.2, ()) h142 [0, 4] [0] 0
    have h117 := (congrFun hk112 _).symm.trans h117p
    refine nt (qe (nr (rt [] (fun γ w hs => ?_))))
    rw [← sI h117]
    exact hs.turned (is := [0]) rfl
  refine qk (nt (qs (qs (qr (oN 4 [(80, vb ((w64 (x3 - x2)) == 1))] [0, 1, 2, 3, 4] ?_)))))
  refine oe (nt (cC h91 (fun h229 => ?_) (fun h230 => ?_)))
  · refine qs (qr (oN 2 [(14, vi x1)] [0, 2, 4] ?_))
    refine oe (nt (qs (qr (oN 2 [(15, vi x2)] [14, 0, 2, 4] ?_))))
    refine oe (nt (qs ?_))
    obtain ⟨r234, hL235, h236⟩ := bS h229
    obtain ⟨k237, hk238, h236⟩ := brkS h236
    refine JC_cutP (τ := (Int) × (Unit)) (fun y => k237 y.1 = some r) (fun y242 => [(14, vi y242.1), (0, .v (.slice a0_0 x0.length c0_0)), (2, vi x2), (4, .v (.func (.func 35) #[] #[.pointer (some ⟨g4_0, 0, none⟩), .pointer (some ⟨g4_1, 0, none⟩), .pointer (some ⟨g4_2, 0, none⟩)]))]) (fun y242 => []) (fun y242 => [SlRes e0_0 x0 a0_0 c0_0]) ?_ (fun y242 h243p => ?_)
    · refine qb (lp Unit hL235 (fun s231 y232 => [(15, vi s231.1), (14, vi s231.2), (0, .v (.slice a0_0 x0.length c0_0)), (2, vi x2), (4, .v (.func (.func 35) #[] #[.pointer (some ⟨g4_0, 0, none⟩), .pointer (some ⟨g4_1, 0, none⟩), .pointer (some ⟨g4_2, 0, none⟩)]))]) (fun s231 y232 => []) (fun s231 y232 => [SlRes e0_0 x0 a0_0 c0_0]) () [15, 14, 0, 2, 4] [0] 0 (fun s231 y232 t233 h239 hd240 => ?_))
      refine qs (qs (qr (oN 3 [(85, vb (decide (s231.2 < s231.1)))] [15, 14, 0, 2, 4] ?_)))
      refine oe (nt (cC h239 (fun h283 => ?_) (fun h284 => ?_)))
      · refine qk (nt (qb (qs (qr (oN 7 [(16, vi (w64 (Int.fdiv (wu64 (w64 (s231.2 + s231.1))) 2)))] [15, 14, 0, 2, 4] ?_)))))
        refine oe (nt (qs (JC_quiet (by kernel_rfl) (by kernel_rfl) ?_)))
        refine qN 3 [(94, vi x2), (93, .v (.slice a0_0 x0.length c0_0)), (92, .v (.func (.func 35) #[] #[.pointer (some ⟨g4_0, 0, none⟩), .pointer (some ⟨g4_1, 0, none⟩), .pointer (some ⟨g4_2, 0, none⟩)]))] [16, 15, 14, 0, 2, 4] ?_
        obtain ⟨x285, hx286, h287⟩ := bS h283
        refine qi 1 (fun γ w hs => (hs.view 0 rfl)) hx286 ?_
        refine ql 3 0 (.int .i64 x285) (fun γ w hs => (hs.view 0 rfl).flatq hx286) ?_
        refine qN 2 [(98, vi (w64 (Int.fdiv (wu64 (w64 (s231.2 + s231.1))) 2))), (97, .v (.slice a0_0 x0.length c0_0))] [96, 92, 16, 15, 14, 0, 2, 4] ?_
        obtain ⟨x288, hx289, h290⟩ := bS h287
        refine qi 1 (fun γ w hs => (hs.view 0 rfl)) hx289 ?_
        refine ql 3 0 (.int .i64 x288) (fun γ w hs => (hs.view 0 rfl).flatq hx289) ?_
        obtain ⟨t291, h292, h293⟩ := bS h290
        refine q0 (fun γ w hs => hq w hs.kept _ _ _ h292) ?_
        refine qN 2 [(103, vb (!(decide (t291 < 0))))] [16, 15, 14, 0, 2, 4] ?_
        refine qz (nt (cC h293 (fun h296 => ?_) (fun h297 => ?_)))
        · refine qr (oN 3 [(14, vi (w64 ((w64 (Int.fdiv (wu64 (w64 (s231.2 + s231.1))) 2)) + 1)))] [15, 0, 2, 4] ?_)
          exact oe (bn (ct h296 () [15, 14, 0, 2, 4] [0] 0))
        refine qr (oN 2 [(15, vi (w64 (Int.fdiv (wu64 (w64 (s231.2 + s231.1))) 2)))] [14, 0, 2, 4] ?_)
        exact oe (bn (ct h297 () [15, 14, 0, 2, 4] [0] 0))
      refine qx (nx (nx (bh ?_)))
      have h298 := leafB hd240 h284 h236
      exact mp (s231.2, ()) h298 [14, 0, 2, 4] [0] 0
    have h243 := (congrFun hk238 _).symm.trans h243p
    refine nt (qs (qs (qr (oN 2 [(17, vi x2)] [14, 0, 4] ?_))))
    refine oe (nt ?_)
    obtain ⟨r247, hL248, h249⟩ := bS h243
    obtain ⟨k250, hk251, h249⟩ := brkS h249
    refine JC_cutP (τ := ((List Int)) × (Unit)) (fun y => k250 y.1 = some r) (fun y255 => [(0, .v (.slice a0_0 y255.1.length c0_0)), (4, .v (.func (.func 35) #[] #[.pointer (some ⟨g4_0, 0, none⟩), .pointer (some ⟨g4_1, 0, none⟩), .pointer (some ⟨g4_2, 0, none⟩)]))]) (fun y255 => []) (fun y255 => [SlRes e0_0 y255.1 a0_0 c0_0]) ?_ (fun y255 h256p => ?_)
    · refine qb (lp Unit hL248 (fun s244 y245 => [(17, vi s244.1), (14, vi y242.1), (0, .v (.slice a0_0 s244.2.length c0_0)), (4, .v (.func (.func 35) #[] #[.pointer (some ⟨g4_0, 0, none⟩), .pointer (some ⟨g4_1, 0, none⟩), .pointer (some ⟨g4_2, 0, none⟩)]))]) (fun s244 y245 => []) (fun s244 y245 => [SlRes e0_0 s244.2 a0_0 c0_0]) () [17, 14, 0, 4] [0] 0 (fun s244 y245 t246 h252 hd253 => ?_))
      refine qs (qs (qr (oN 3 [(110, vb (decide (s244.1 > y242.1)))] [17, 14, 0, 4] ?_)))
      refine oe (nt (cC h252 (fun h258 => ?_) (fun h259 => ?_)))
      · refine qk (nt (qs (qb ?_)))
        obtain ⟨x260, hx261, h262⟩ := bS h258
        obtain ⟨x263, hx264, h265⟩ := bS h262
        obtain ⟨x266, hx267, h268⟩ := bS h265
        obtain ⟨l269, hm270, h271⟩ := bS h268
        replace hm270 := (sI hm270).symm
        have hl272 := len_set hm270
        obtain ⟨x273, hx274, h275⟩ := bS h271
        obtain ⟨l276, hm277, h278⟩ := bS h275
        replace hm277 := (sI hm277).symm
        have hl279 := len_set hm277
        refine JC_cut (τ := Unit) (fun _ => [(17, vi s244.1), (14, vi y242.1), (0, .v (.slice a0_0 l276.length c0_0)), (4, .v (.func (.func 35) #[] #[.pointer (some ⟨g4_0, 0, none⟩), .pointer (some ⟨g4_1, 0, none⟩), .pointer (some ⟨g4_2, 0, none⟩)]))]) (fun _ => []) (fun _ => [SlRes e0_0 l276 a0_0 c0_0]) ?_ (fun _ => ?_)
        · refine jw [17, 14, 0, 4] [0] ?_
          refine JC_heldN (ks := []) (Rk := []) 18 (by kernel_rfl) (by kernel_rfl) ?_
          refine htq 0 (.v (.slice a0_0 s244.2.length c0_0)) [] ?_
          refine htq 1 (vi s244.1) [] ?_
          refine htq 2 (.v (.slice a0_0 s244.2.length c0_0)) [] ?_
          refine htq 3 (vi s244.1) [] ?_
          refine htq 4 (vi (w64 (s244.1 - 1))) [] ?_
          refine hk [117, 115, 114, 113, 17, 14, 0, 4] ?_
          refine htq 5 (.v (.slice a0_0 s244.2.length c0_0)) [] ?_
          refine htq 6 (vi s244.1) [] ?_
          refine htq 7 (vi (w64 (s244.1 - 1))) [] ?_
          refine hk [120, 118, 117, 115, 114, 113, 17, 14, 0, 4] ?_
          refine htq 10 (.v (.slice a0_0 s244.2.length c0_0)) [] ?_
          refine htq 11 (vi s244.1) [] ?_
          refine ha2 8 12 ?_ ?_
          · refine hi (fun γ0 δ hm => ?_)
            refine JG_index (by kernel_rfl) (d := a0_0) (m := s244.2.length) (j := (w64 (s244.1 - 1))) (s := 1) (by kernel_rfl) (fun w hs => (hs.view 0 rfl)) rfl hx261 rfl ?_
            refine gn hm [121, 124, 123, 117, 115, 114, 113, 17, 14, 0, 4] [] ?_
            refine ha2 9 12 ?_ ?_
            · refine hi (fun γ0 δ hm => ?_)
              refine JG_loadq (by kernel_rfl) (t := 3) (d := a0_0) (Int.toNat (w64 (s244.1 - 1)) * 1) 0 (by kernel_rfl) (cs := [.int .i64 x260]) (v := .int .i64 x260) (fun w hs => (hs.view 0 rfl).flatq hx261) (by kernel_rfl) rfl ?_
              refine gn hm [122, 124, 123, 117, 115, 114, 113, 17, 14, 0, 4] [] ?_
              refine ha1 12 ?_
              refine hi (fun γ0 δ hm => ?_)
              refine JG_index (by kernel_rfl) (d := a0_0) (m := s244.2.length) (j := s244.1) (s := 1) (by kernel_rfl) (fun w hs => (hs.view 0 rfl)) rfl hx264 rfl ?_
              refine gn hm [125, 122, 117, 115, 114, 113, 17, 14, 0, 4] [] ?_
              refine ha1 13 ?_
              refine hi (fun γ0 δ hm => ?_)
              refine JG_loadq (by kernel_rfl) (t := 3) (d := a0_0) (Int.toNat s244.1 * 1) 0 (by kernel_rfl) (cs := [.int .i64 x263]) (v := .int .i64 x263) (fun w hs => (hs.view 0 rfl).flatq hx264) (by kernel_rfl) rfl ?_
              refine gn hm [126, 122, 117, 115, 114, 113, 17, 14, 0, 4] [] ?_
              refine ha1 14 ?_
              refine hi (fun γ0 δ hm => ?_)
              refine JG_index (by kernel_rfl) (d := a0_0) (m := s244.2.length) (j := s244.1) (s := 1) (by kernel_rfl) (fun w hs => (hs.view 0 rfl)) rfl hx267 rfl ?_
              refine gn hm [127, 126, 122, 117, 115, 17, 14, 0, 4] [] ?_
              refine ha1 15 ?_
              refine hi (fun γ0 δ hm => ?_)
              refine JG_storeq (α := Int) (d := a0_0) (vs := [.int .i64 x260]) (j := s244.1) (x' := x260) (by kernel_rfl) 0 (by kernel_rfl) hx267 (Rc := []) (Rr := []) rfl (by kernel_rfl) (fun w c F Fs ho _ _ => own_flat_set (by kernel_rfl) ho) hm270 (sl' := [(127, .q a0_0 (Int.toNat s244.1 * 1)), (126, vi x263), (122, vi x260), (117, vi (w64 (s244.1 - 1))), (115, .v (.slice a0_0 s244.2.length c0_0)), (17, vi s244.1), (14, vi y242.1), (0, .v (.slice a0_0 s244.2.length c0_0)), (4, .v (.func (.func 35) #[] #[.pointer (some ⟨g4_0, 0, none⟩), .pointer (some ⟨g4_1, 0, none⟩), .pointer (some ⟨g4_2, 0, none⟩)]))]) (by kernel_rfl) ?_
              refine KG_eqE (sl' := [(127, .q a0_0 (Int.toNat s244.1 * 1)), (126, vi x263), (122, vi x260), (117, vi (w64 (s244.1 - 1))), (115, .v (.slice a0_0 l269.length c0_0)), (17, vi s244.1), (14, vi y242.1), (0, .v (.slice a0_0 l269.length c0_0)), (4, .v (.func (.func 35) #[] #[.pointer (some ⟨g4_0, 0, none⟩), .pointer (some ⟨g4_1, 0, none⟩), .pointer (some ⟨g4_2, 0, none⟩)]))]) (bx' := []) (by simp only [hl272]) rfl ?_
              refine gn hm [126, 117, 115, 17, 14, 0, 4] [] ?_
              refine ha1 16 ?_
              refine hi (fun γ0 δ hm => ?_)
              refine JG_index (by kernel_rfl) (d := a0_0) (m := l269.length) (j := (w64 (s244.1 - 1))) (s := 1) (by kernel_rfl) (fun w hs => (hs.view 0 rfl)) rfl hx274 rfl ?_
              refine gn hm [128, 126, 17, 14, 0, 4] [] ?_
              refine ha1 17 ?_
              refine hi (fun γ0 δ hm => ?_)
              refine JG_storeq (α := Int) (d := a0_0) (vs := [.int .i64 x263]) (j := (w64 (s244.1 - 1))) (x' := x263) (by kernel_rfl) 0 (by kernel_rfl) hx274 (Rc := []) (Rr := []) rfl (by kernel_rfl) (fun w c F Fs ho _ _ => own_flat_set (by kernel_rfl) ho) hm277 (sl' := [(128, .q a0_0 (Int.toNat (w64 (s244.1 - 1)) * 1)), (126, vi x263), (17, vi s244.1), (14, vi y242.1), (0, .v (.slice a0_0 l269.length c0_0)), (4, .v (.func (.func 35) #[] #[.pointer (some ⟨g4_0, 0, none⟩), .pointer (some ⟨g4_1, 0, none⟩), .pointer (some ⟨g4_2, 0, none⟩)]))]) (by kernel_rfl) ?_
              refine KG_eqE (sl' := [(128, .q a0_0 (Int.toNat (w64 (s244.1 - 1)) * 1)), (126, vi x263), (17, vi s244.1), (14, vi y242.1), (0, .v (.slice a0_0 l276.length c0_0)), (4, .v (.func (.func 35) #[] #[.pointer (some ⟨g4_0, 0, none⟩), .pointer (some ⟨g4_1, 0, none⟩), .pointer (some ⟨g4_2, 0, none⟩)]))]) (bx' := []) (by simp only [hl279]) rfl ?_
              refine gn hm [17, 14, 0, 4] [] ?_
              exact hd () [17, 14, 0, 4] [0] 0
            · refine hi (fun γ0 δ hm => ?_)
              refine JG_index (by kernel_rfl) (d := a0_0) (m := s244.2.length) (j := s244.1) (s := 1) (by kernel_rfl) (fun w hs => (hs.view 0 rfl)) rfl hx264 rfl ?_
              refine gn hm [125, 121, 117, 115, 114, 113, 17, 14, 0, 4] [] ?_
              refine ha2 9 13 ?_ ?_
              · refine hi (fun γ0 δ hm => ?_)
                refine JG_loadq (by kernel_rfl) (t := 3) (d := a0_0) (Int.toNat (w64 (s244.1 - 1)) * 1) 0 (by kernel_rfl) (cs := [.int .i64 x260]) (v := .int .i64 x260) (fun w hs => (hs.view 0 rfl).flatq hx261) (by kernel_rfl) rfl ?_
                refine gn hm [122, 125, 117, 115, 114, 113, 17, 14, 0, 4] [] ?_
                refine ha1 13 ?_
                refine hi (fun γ0 δ hm => ?_)
                refine JG_loadq (by kernel_rfl) (t := 3) (d := a0_0) (Int.toNat s244.1 * 1) 0 (by kernel_rfl) (cs := [.int .i64 x263]) (v := .int .i64 x263) (fun w hs => (hs.view 0 rfl).flatq hx264) (by kernel_rfl) rfl ?_
                refine gn hm [126, 122, 117, 115, 114, 113, 17, 14, 0, 4] [] ?_
                refine ha1 14 ?_
                refine hi (fun γ0 δ hm => ?_)
                refine JG_index (by kernel_rfl) (d := a0_0) (m := s244.2.length) (j := s244.1) (s := 1) (by kernel_rfl) (fun w hs => (hs.view 0 rfl)) rfl hx267 rfl ?_
                refine gn hm [127, 126, 122, 117, 115, 17, 14, 0, 4] [] ?_
                refine ha1 15 ?_
                refine hi (fun γ0 δ hm => ?_)
                refine JG_storeq (α := Int) (d := a0_0) (vs := [.int .i64 x260]) (j := s244.1) (x' := x260) (by kernel_rfl) 0 (by kernel_rfl) hx267 (Rc := []) (Rr := []) rfl (by kernel_rfl) (fun w c F Fs ho _ _ => own_flat_set (by kernel_rfl) ho) hm270 (sl' := [(127, .q a0_0 (Int.toNat s244.1 * 1)), (126, vi x263), (122, vi x260), (117, vi (w64 (s244.1 - 1))), (115, .v (.slice a0_0 s244.2.length c0_0)), (17, vi s244.1), (14, vi y242.1), (0, .v (.slice a0_0 s244.2.length c0_0)), (4, .v (.func (.func 35) #[] #[.pointer (some ⟨g4_0, 0, none⟩), .pointer (some ⟨g4_1, 0, none⟩), .pointer (some ⟨g4_2, 0, none⟩)]))]) (by kernel_rfl) ?_
                refine KG_eqE (sl' := [(127, .q a0_0 (Int.toNat s244.1 * 1)), (126, vi x263), (122, vi x260), (117, vi (w64 (s244.1 - 1))), (115, .v (.slice a0_0 l269.length c0_0)), (17, vi s244.1), (14, vi y242.1), (0, .v (.slice a0_0 l269.length c0_0)), (4, .v (.func (.func 35) #[] #[.pointer (some ⟨g4_0, 0, none⟩), .pointer (some ⟨g4_1, 0, none⟩), .pointer (some ⟨g4_2, 0, none⟩)]))]) (bx' := []) (by simp only [hl272]) rfl ?_
                refine gn hm [126, 117, 115, 17, 14, 0, 4] [] ?_
                refine ha1 16 ?_
                refine hi (fun γ0 δ hm => ?_)
                refine JG_index (by kernel_rfl) (d := a0_0) (m := l269.length) (j := (w64 (s244.1 - 1))) (s := 1) (by kernel_rfl) (fun w hs => (hs.view 0 rfl)) rfl hx274 rfl ?_
                refine gn hm [128, 126, 17, 14, 0, 4] [] ?_
                refine ha1 17 ?_
                refine hi (fun γ0 δ hm => ?_)
                refine JG_storeq (α := Int) (d := a0_0) (vs := [.int .i64 x263]) (j := (w64 (s244.1 - 1))) (x' := x263) (by kernel_rfl) 0 (by kernel_rfl) hx274 (Rc := []) (Rr := []) rfl (by kernel_rfl) (fun w c F Fs ho _ _ => own_flat_set (by kernel_rfl) ho) hm277 (sl' := [(128, .q a0_0 (Int.toNat (w64 (s244.1 - 1)) * 1)), (126, vi x263), (17, vi s244.1), (14, vi y242.1), (0, .v (.slice a0_0 l269.length c0_0)), (4, .v (.func (.func 35) #[] #[.pointer (some ⟨g4_0, 0, none⟩), .pointer (some ⟨g4_1, 0, none⟩), .pointer (some ⟨g4_2, 0, none⟩)]))]) (by kernel_rfl) ?_
                refine KG_eqE (sl' := [(128, .q a0_0 (Int.toNat (w64 (s244.1 - 1)) * 1)), (126, vi x263), (17, vi s244.1), (14, vi y242.1), (0, .v (.slice a0_0 l276.length c0_0)), (4, .v (.func (.func 35) #[] #[.pointer (some ⟨g4_0, 0, none⟩), .pointer (some ⟨g4_1, 0, none⟩), .pointer (some ⟨g4_2, 0, none⟩)]))]) (bx' := []) (by simp only [hl279]) rfl ?_
                refine gn hm [17, 14, 0, 4] [] ?_
                exact hd () [17, 14, 0, 4] [0] 0
              · refine hi (fun γ0 δ hm => ?_)
                refine JG_loadq (by kernel_rfl) (t := 3) (d := a0_0) (Int.toNat s244.1 * 1) 0 (by kernel_rfl) (cs := [.int .i64 x263]) (v := .int .i64 x263) (fun w hs => (hs.view 0 rfl).flatq hx264) (by kernel_rfl) rfl ?_
                refine gn hm [126, 121, 117, 115, 114, 113, 17, 14, 0, 4] [] ?_
                refine ha1 9 ?_
                refine hi (fun γ0 δ hm => ?_)
                refine JG_loadq (by kernel_rfl) (t := 3) (d := a0_0) (Int.toNat (w64 (s244.1 - 1)) * 1) 0 (by kernel_rfl) (cs := [.int .i64 x260]) (v := .int .i64 x260) (fun w hs => (hs.view 0 rfl).flatq hx261) (by kernel_rfl) rfl ?_
                refine gn hm [122, 126, 117, 115, 114, 113, 17, 14, 0, 4] [] ?_
                refine ha1 14 ?_
                refine hi (fun γ0 δ hm => ?_)
                refine JG_index (by kernel_rfl) (d := a0_0) (m := s244.2.length) (j := s244.1) (s := 1) (by kernel_rfl) (fun w hs => (hs.view 0 rfl)) rfl hx267 rfl ?_
                refine gn hm [127, 122, 126, 117, 115, 17, 14, 0, 4] [] ?_
                refine ha1 15 ?_
                refine hi (fun γ0 δ hm => ?_)
                refine JG_storeq (α := Int) (d := a0_0) (vs := [.int .i64 x260]) (j := s244.1) (x' := x260) (by kernel_rfl) 0 (by kernel_rfl) hx267 (Rc := []) (Rr := []) rfl (by kernel_rfl) (fun w c F Fs ho _ _ => own_flat_set (by kernel_rfl) ho) hm270 (sl' := [(127, .q a0_0 (Int.toNat s244.1 * 1)), (122, vi x260), (126, vi x263), (117, vi (w64 (s244.1 - 1))), (115, .v (.slice a0_0 s244.2.length c0_0)), (17, vi s244.1), (14, vi y242.1), (0, .v (.slice a0_0 s244.2.length c0_0)), (4, .v (.func (.func 35) #[] #[.pointer (some ⟨g4_0, 0, none⟩), .pointer (some ⟨g4_1, 0, none⟩), .pointer (some ⟨g4_2, 0, none⟩)]))]) (by kernel_rfl) ?_
                refine KG_eqE (sl' := [(127, .q a0_0 (Int.toNat s244.1 * 1)), (122, vi x260), (126, vi x263), (117, vi (w64 (s244.1 - 1))), (115, .v (.slice a0_0 l269.length c0_0)), (17, vi s244.1), (14, vi y242.1), (0, .v (.slice a0_0 l269.length c0_0)), (4, .v (.func (.func 35) #[] #[.pointer (some ⟨g4_0, 0, none⟩), .pointer (some ⟨g4_1, 0, none⟩), .pointer (some ⟨g4_2, 0, none⟩)]))]) (bx' := []) (by simp only [hl272]) rfl ?_
                refine gn hm [126, 117, 115, 17, 14, 0, 4] [] ?_
                refine ha1 16 ?_
                refine hi (fun γ0 δ hm => ?_)
                refine JG_index (by kernel_rfl) (d := a0_0) (m := l269.length) (j := (w64 (s244.1 - 1))) (s := 1) (by kernel_rfl) (fun w hs => (hs.view 0 rfl)) rfl hx274 rfl ?_
                refine gn hm [128, 126, 17, 14, 0, 4] [] ?_
                refine ha1 17 ?_
                refine hi (fun γ0 δ hm => ?_)
                refine JG_storeq (α := Int) (d := a0_0) (vs := [.int .i64 x263]) (j := (w64 (s244.1 - 1))) (x' := x263) (by kernel_rfl) 0 (by kernel_rfl) hx274 (Rc := []) (Rr := []) rfl (by kernel_rfl) (fun w c F Fs ho _ _ => own_flat_set (by kernel_rfl) ho) hm277 (sl' := [(128, .q a0_0 (Int.toNat (w64 (s244.1 - 1)) * 1)), (126, vi x263), (17, vi s244.1), (14, vi y242.1), (0, .v (.slice a0_0 l269.length c0_0)), (4, .v (.func (.func 35) #[] #[.pointer (some ⟨g4_0, 0, none⟩), .pointer (some ⟨g4_1, 0, none⟩), .pointer (some ⟨g4_2, 0, none⟩)]))]) (by kernel_rfl) ?_
                refine KG_eqE (sl' := [(128, .q a0_0 (Int.toNat (w64 (s244.1 - 1)) * 1)), (126, vi x263), (17, vi s244.1), (14, vi y242.1), (0, .v (.slice a0_0 l276.length c0_0)), (4, .v (.func (.func 35) #[] #[.pointer (some ⟨g4_0, 0, none⟩), .pointer (some ⟨g4_1, 0, none⟩), .pointer (some ⟨g4_2, 0, none⟩)]))]) (bx' := []) (by simp only [hl279]) rfl ?_
                refine gn hm [17, 14, 0, 4] [] ?_
                exact hd () [17, 14, 0, 4] [0] 0
          · refine hi (fun γ0 δ hm => ?_)
            refine JG_index (by kernel_rfl) (d := a0_0) (m := s244.2.length) (j := s244.1) (s := 1) (by kernel_rfl) (fun w hs => (hs.view 0 rfl)) rfl hx264 rfl ?_
            refine gn hm [125, 120, 118, 117, 115, 114, 113, 17, 14, 0, 4] [] ?_
            refine ha2 8 13 ?_ ?_
            · refine hi (fun γ0 δ hm => ?_)
              refine JG_index (by kernel_rfl) (d := a0_0) (m := s244.2.length) (j := (w64 (s244.1 - 1))) (s := 1) (by kernel_rfl) (fun w hs => (hs.view 0 rfl)) rfl hx261 rfl ?_
              refine gn hm [121, 125, 117, 115, 114, 113, 17, 14, 0, 4] [] ?_
              refine ha2 9 13 ?_ ?_
              · refine hi (fun γ0 δ hm => ?_)
                refine JG_loadq (by kernel_rfl) (t := 3) (d := a0_0) (Int.toNat (w64 (s244.1 - 1)) * 1) 0 (by kernel_rfl) (cs := [.int .i64 x260]) (v := .int .i64 x260) (fun w hs => (hs.view 0 rfl).flatq hx261) (by kernel_rfl) rfl ?_
                refine gn hm [122, 125, 117, 115, 114, 113, 17, 14, 0, 4] [] ?_
                refine ha1 13 ?_
                refine hi (fun γ0 δ hm => ?_)
                refine JG_loadq (by kernel_rfl) (t := 3) (d := a0_0) (Int.toNat s244.1 * 1) 0 (by kernel_rfl) (cs := [.int .i64 x263]) (v := .int .i64 x263) (fun w hs => (hs.view 0 rfl).flatq hx264) (by kernel_rfl) rfl ?_
                refine gn hm [126, 122, 117, 115, 114, 113, 17, 14, 0, 4] [] ?_
                refine ha1 14 ?_
                refine hi (fun γ0 δ hm => ?_)
                refine JG_index (by kernel_rfl) (d := a0_0) (m := s244.2.length) (j := s244.1) (s := 1) (by kernel_rfl) (fun w hs => (hs.view 0 rfl)) rfl hx267 rfl ?_
                refine gn hm [127, 126, 122, 117, 115, 17, 14, 0, 4] [] ?_
                refine ha1 15 ?_
                refine hi (fun γ0 δ hm => ?_)
                refine JG_storeq (α := Int) (d := a0_0) (vs := [.int .i64 x260]) (j := s244.1) (x' := x260) (by kernel_rfl) 0 (by kernel_rfl) hx267 (Rc := []) (Rr := []) rfl (by kernel_rfl) (fun w c F Fs ho _ _ => own_flat_set (by kernel_rfl) ho) hm270 (sl' := [(127, .q a0_0 (Int.toNat s244.1 * 1)), (126, vi x263), (122, vi x260), (117, vi (w64 (s244.1 - 1))), (115, .v (.slice a0_0 s244.2.length c0_0)), (17, vi s244.1), (14, vi y242.1), (0, .v (.slice a0_0 s244.2.length c0_0)), (4, .v (.func (.func 35) #[] #[.pointer (some ⟨g4_0, 0, none⟩), .pointer (some ⟨g4_1, 0, none⟩), .pointer (some ⟨g4_2, 0, none⟩)]))]) (by kernel_rfl) ?_
                refine KG_eqE (sl' := [(127, .q a0_0 (Int.toNat s244.1 * 1)), (126, vi x263), (122, vi x260), (117, vi (w64 (s244.1 - 1))), (115, .v (.slice a0_0 l269.length c0_0)), (17, vi s244.1), (14, vi y242.1), (0, .v (.slice a0_0 l269.length c0_0)), (4, .v (.func (.func 35) #[] #[.pointer (some ⟨g4_0, 0, none⟩), .pointer (some ⟨g4_1, 0, none⟩), .pointer (some ⟨g4_2, 0, none⟩)]))]) (bx' := []) (by simp only [hl272]) rfl ?_
                refine gn hm [126, 117, 115, 17, 14, 0, 4] [] ?_
                refine ha1 16 ?_
                refine hi (fun γ0 δ hm => ?_)
                refine JG_index (by kernel_rfl) (d := a0_0) (m := l269.length) (j := (w64 (s244.1 - 1))) (s := 1) (by kernel_rfl) (fun w hs => (hs.view 0 rfl)) rfl hx274 rfl ?_
                refine gn hm [128, 126, 17, 14, 0, 4] [] ?_
                refine ha1 17 ?_
                refine hi (fun γ0 δ hm => ?_)
                refine JG_storeq (α := Int) (d := a0_0) (vs := [.int .i64 x263]) (j := (w64 (s244.1 - 1))) (x' := x263) (by kernel_rfl) 0 (by kernel_rfl) hx274 (Rc := []) (Rr := []) rfl (by kernel_rfl) (fun w c F Fs ho _ _ => own_flat_set (by kernel_rfl) ho) hm277 (sl' := [(128, .q a0_0 (Int.toNat (w64 (s244.1 - 1)) * 1)), (126, vi x263), (17, vi s244.1), (14, vi y242.1), (0, .v (.slice a0_0 l269.length c0_0)), (4, .v (.func (.func 35) #[] #[.pointer (some ⟨g4_0, 0, none⟩), .pointer (some ⟨g4_1, 0, none⟩), .pointer (some ⟨g4_2, 0, none⟩)]))]) (by kernel_rfl) ?_
                refine KG_eqE (sl' := [(128, .q a0_0 (Int.toNat (w64 (s244.1 - 1)) * 1)), (126, vi x263), (17, vi s244.1), (14, vi y242.1), (0, .v (.slice a0_0 l276.length c0_0)), (4, .v (.func (.func 35) #[] #[.pointer (some ⟨g4_0, 0, none⟩), .pointer (some ⟨g4_1, 0, none⟩), .pointer (some ⟨g4_2, 0, none⟩)]))]) (bx' := []) (by simp only [hl279]) rfl ?_
                refine gn hm [17, 14, 0, 4] [] ?_
                exact hd () [17, 14, 0, 4] [0] 0
              · refine hi (fun γ0 δ hm => ?_)
                refine JG_loadq (by kernel_rfl) (t := 3) (d := a0_0) (Int.toNat s244.1 * 1) 0 (by kernel_rfl) (cs := [.int .i64 x263]) (v := .int .i64 x263) (fun w hs => (hs.view 0 rfl).flatq hx264) (by kernel_rfl) rfl ?_
                refine gn hm [126, 121, 117, 115, 114, 113, 17, 14, 0, 4] [] ?_
                refine ha1 9 ?_
                refine hi (fun γ0 δ hm => ?_)
                refine JG_loadq (by kernel_rfl) (t := 3) (d := a0_0) (Int.toNat (w64 (s244.1 - 1)) * 1) 0 (by kernel_rfl) (cs := [.int .i64 x260]) (v := .int .i64 x260) (fun w hs => (hs.view 0 rfl).flatq hx261) (by kernel_rfl) rfl ?_
                refine gn hm [122, 126, 117, 115, 114, 113, 17, 14, 0, 4] [] ?_
                refine ha1 14 ?_
                refine hi (fun γ0 δ hm => ?_)
                refine JG_index (by kernel_rfl) (d := a0_0) (m := s244.2.length) (j := s244.1) (s := 1) (by kernel_rfl) (fun w hs => (hs.view 0 rfl)) rfl hx267 rfl ?_
                refine gn hm [127, 122, 126, 117, 115, 17, 14, 0, 4] [] ?_
                refine ha1 15 ?_
                refine hi (fun γ0 δ hm => ?_)
                refine JG_storeq (α := Int) (d := a0_0) (vs := [.int .i64 x260]) (j := s244.1) (x' := x260) (by kernel_rfl) 0 (by kernel_rfl) hx267 (Rc := []) (Rr := []) rfl (by kernel_rfl) (fun w c F Fs ho _ _ => own_flat_set (by kernel_rfl) ho) hm270 (sl' := [(127, .q a0_0 (Int.toNat s244.1 * 1)), (122, vi x260), (126, vi x263), (117, vi (w64 (s244.1 - 1))), (115, .v (.slice a0_0 s244.2.length c0_0)), (17, vi s244.1), (14, vi y242.1), (0, .v (.slice a0_0 s244.2.length c0_0)), (4, .v (.func (.func 35) #[] #[.pointer (some ⟨g4_0, 0, none⟩), .pointer (some ⟨g4_1, 0, none⟩), .pointer (some ⟨g4_2, 0, none⟩)]))]) (by kernel_rfl) ?_
                refine KG_eqE (sl' := [(127, .q a0_0 (Int.toNat s244.1 * 1)), (122, vi x260), (126, vi x263), (117, vi (w64 (s244.1 - 1))), (115, .v (.slice a0_0 l269.length c0_0)), (17, vi s244.1), (14, vi y242.1), (0, .v (.slice a0_0 l269.length c0_0)), (4, .v (.func (.func 35) #[] #[.pointer (some ⟨g4_0, 0, none⟩), .pointer (some ⟨g4_1, 0, none⟩), .pointer (some ⟨g4_2, 0, none⟩)]))]) (bx' := []) (by simp only [hl272]) rfl ?_
                refine gn hm [126, 117, 115, 17, 14, 0, 4] [] ?_
                refine ha1 16 ?_
                refine hi (fun γ0 δ hm => ?_)
                refine JG_index (by kernel_rfl) (d := a0_0) (m := l269.length) (j := (w64 (s244.1 - 1))) (s := 1) (by kernel_rfl) (fun w hs => (hs.view 0 rfl)) rfl hx274 rfl ?_
                refine gn hm [128, 126, 17, 14, 0, 4] [] ?_
                refine ha1 17 ?_
                refine hi (fun γ0 δ hm => ?_)
                refine JG_storeq (α := Int) (d := a0_0) (vs := [.int .i64 x263]) (j := (w64 (s244.1 - 1))) (x' := x263) (by kernel_rfl) 0 (by kernel_rfl) hx274 (Rc := []) (Rr := []) rfl (by kernel_rfl) (fun w c F Fs ho _ _ => own_flat_set (by kernel_rfl) ho) hm277 (sl' := [(128, .q a0_0 (Int.toNat (w64 (s244.1 - 1)) * 1)), (126, vi x263), (17, vi s244.1), (14, vi y242.1), (0, .v (.slice a0_0 l269.length c0_0)), (4, .v (.func (.func 35) #[] #[.pointer (some ⟨g4_0, 0, none⟩), .pointer (some ⟨g4_1, 0, none⟩), .pointer (some ⟨g4_2, 0, none⟩)]))]) (by kernel_rfl) ?_
                refine KG_eqE (sl' := [(128, .q a0_0 (Int.toNat (w64 (s244.1 - 1)) * 1)), (126, vi x263), (17, vi s244.1), (14, vi y242.1), (0, .v (.slice a0_0 l276.length c0_0)), (4, .v (.func (.func 35) #[] #[.pointer (some ⟨g4_0, 0, none⟩), .pointer (some ⟨g4_1, 0, none⟩), .pointer (some ⟨g4_2, 0, none⟩)]))]) (bx' := []) (by simp only [hl279]) rfl ?_
                refine gn hm [17, 14, 0, 4] [] ?_
                exact hd () [17, 14, 0, 4] [0] 0
            · refine hi (fun γ0 δ hm => ?_)
              refine JG_loadq (by kernel_rfl) (t := 3) (d := a0_0) (Int.toNat s244.1 * 1) 0 (by kernel_rfl) (cs := [.int .i64 x263]) (v := .int .i64 x263) (fun w hs => (hs.view 0 rfl).flatq hx264) (by kernel_rfl) rfl ?_
              refine gn hm [126, 120, 118, 117, 115, 114, 113, 17, 14, 0, 4] [] ?_
              refine ha1 8 ?_
              refine hi (fun γ0 δ hm => ?_)
              refine JG_index (by kernel_rfl) (d := a0_0) (m := s244.2.length) (j := (w64 (s244.1 - 1))) (s := 1) (by kernel_rfl) (fun w hs => (hs.view 0 rfl)) rfl hx261 rfl ?_
              refine gn hm [121, 126, 117, 115, 114, 113, 17, 14, 0, 4] [] ?_
              refine ha1 9 ?_
              refine hi (fun γ0 δ hm => ?_)
              refine JG_loadq (by kernel_rfl) (t := 3) (d := a0_0) (Int.toNat (w64 (s244.1 - 1)) * 1) 0 (by kernel_rfl) (cs := [.int .i64 x260]) (v := .int .i64 x260) (fun w hs => (hs.view 0 rfl).flatq hx261) (by kernel_rfl) rfl ?_
              refine gn hm [122, 126, 117, 115, 114, 113, 17, 14, 0, 4] [] ?_
              refine ha1 14 ?_
              refine hi (fun γ0 δ hm => ?_)
              refine JG_index (by kernel_rfl) (d := a0_0) (m := s244.2.length) (j := s244.1) (s := 1) (by kernel_rfl) (fun w hs => (hs.view 0 rfl)) rfl hx267 rfl ?_
              refine gn hm [127, 122, 126, 117, 115, 17, 14, 0, 4] [] ?_
              refine ha1 15 ?_
              refine hi (fun γ0 δ hm => ?_)
              refine JG_storeq (α := Int) (d := a0_0) (vs := [.int .i64 x260]) (j := s244.1) (x' := x260) (by kernel_rfl) 0 (by kernel_rfl) hx267 (Rc := []) (Rr := []) rfl (by kernel_rfl) (fun w c F Fs ho _ _ => own_flat_set (by kernel_rfl) ho) hm270 (sl' := [(127, .q a0_0 (Int.toNat s244.1 * 1)), (122, vi x260), (126, vi x263), (117, vi (w64 (s244.1 - 1))), (115, .v (.slice a0_0 s244.2.length c0_0)), (17, vi s244.1), (14, vi y242.1), (0, .v (.slice a0_0 s244.2.length c0_0)), (4, .v (.func (.func 35) #[] #[.pointer (some ⟨g4_0, 0, none⟩), .pointer (some ⟨g4_1, 0, none⟩), .pointer (some ⟨g4_2, 0, none⟩)]))]) (by kernel_rfl) ?_
              refine KG_eqE (sl' := [(127, .q a0_0 (Int.toNat s244.1 * 1)), (122, vi x260), (126, vi x263), (117, vi (w64 (s244.1 - 1))), (115, .v (.slice a0_0 l269.length c0_0)), (17, vi s244.1), (14, vi y242.1), (0, .v (.slice a0_0 l269.length c0_0)), (4, .v (.func (.func 35) #[] #[.pointer (some ⟨g4_0, 0, none⟩), .pointer (some ⟨g4_1, 0, none⟩), .pointer (some ⟨g4_2, 0, none⟩)]))]) (bx' := []) (by simp only [hl272]) rfl ?_
              refine gn hm [126, 117, 115, 17, 14, 0, 4] [] ?_
              refine ha1 16 ?_
              refine hi (fun γ0 δ hm => ?_)
              refine JG_index (by kernel_rfl) (d := a0_0) (m := l269.length) (j := (w64 (s244.1 - 1))) (s := 1) (by kernel_rfl) (fun w hs => (hs.view 0 rfl)) rfl hx274 rfl ?_
              refine gn hm [128, 126, 17, 14, 0, 4] [] ?_
              refine ha1 17 ?_
              refine hi (fun γ0 δ hm => ?_)
              refine JG_storeq (α := Int) (d := a0_0) (vs := [.int .i64 x263]) (j := (w64 (s244.1 - 1))) (x' := x263) (by kernel_rfl) 0 (by kernel_rfl) hx274 (Rc := []) (Rr := []) rfl (by kernel_rfl) (fun w c F Fs ho _ _ => own_flat_set (by kernel_rfl) ho) hm277 (sl' := [(128, .q a0_0 (Int.toNat (w64 (s244.1 - 1)) * 1)), (126, vi x263), (17, vi s244.1), (14, vi y242.1), (0, .v (.slice a0_0 l269.length c0_0)), (4, .v (.func (.func 35) #[] #[.pointer (some ⟨g4_0, 0, none⟩), .pointer (some ⟨g4_1, 0, none⟩), .pointer (some ⟨g4_2, 0, none⟩)]))]) (by kernel_rfl) ?_
              refine KG_eqE (sl' := [(128, .q a0_0 (Int.toNat (w64 (s244.1 - 1)) * 1)), (126, vi x263), (17, vi s244.1), (14, vi y242.1), (0, .v (.slice a0_0 l276.length c0_0)), (4, .v (.func (.func 35) #[] #[.pointer (some ⟨g4_0, 0, none⟩), .pointer (some ⟨g4_1, 0, none⟩), .pointer (some ⟨g4_2, 0, none⟩)]))]) (bx' := []) (by simp only [hl279]) rfl ?_
              refine gn hm [17, 14, 0, 4] [] ?_
              exact hd () [17, 14, 0, 4] [0] 0
        refine bn (nt (qr (oN 3 [(17, vi (w64 (s244.1 - 1)))] [14, 0, 4] ?_)))
        exact oe (ct h278 () [17, 14, 0, 4] [0] 0)
      refine qx (nx (nx (bh ?_)))
      have h281 := leafB hd253 h259 h249
      exact mp (s244.2, ()) h281 [0, 4] [0] 0
    have h256 := (congrFun hk251 _).symm.trans h256p
    refine nt (qe (nr (rt [] (fun γ w hs => ?_))))
    rw [← sI h256]
    exact hs.turned (is := [0]) rfl
  refine qk (nt (qs (qr (oN 7 [(18, vi (w64 (Int.fdiv (wu64 (w64 (x1 + x3))) 2)))] [0, 1, 2, 3, 4] ?_))))
  refine oe (nt (qs (qr (oN 4 [(19, vi (w64 ((w64 (Int.fdiv (wu64 (w64 (x1 + x3))) 2)) + x2)))] [18, 0, 1, 2, 3, 4] ?_))))
  refine oe (nt (qs (qr (oN 2 [] [19, 18, 0, 1, 2, 3, 4] ?_))))
  refine oe (nt (qs (qs (qr (oN 3 [(140, vb (decide (x2 > (w64 (Int.fdiv (wu64 (w64 (x1 + x3))) 2)))))] [19, 18, 0, 1, 2, 3, 4] ?_)))))
  refine oe (nt ?_)
  obtain ⟨k302, hk303, h416⟩ := jS h230
  refine JC_cutP (τ := (Int × Int) × (Unit)) (fun y => k302 y.1 = some r) (fun y301 => [(19, vi (w64 ((w64 (Int.fdiv (wu64 (w64 (x1 + x3))) 2)) + x2))), (18, vi (w64 (Int.fdiv (wu64 (w64 (x1 + x3))) 2))), (0, .v (.slice a0_0 x0.length c0_0)), (1, vi x1), (2, vi x2), (3, vi x3), (4, .v (.func (.func 35) #[] #[.pointer (some ⟨g4_0, 0, none⟩), .pointer (some ⟨g4_1, 0, none⟩), .pointer (some ⟨g4_2, 0, none⟩)])), (21, vi y301.1.1), (20, vi y301.1.2)]) (fun y301 => []) (fun y301 => [SlRes e0_0 x0 a0_0 c0_0]) ?_ (fun y301 h304p => ?_)
  · refine cC h416 (fun h418 => ?_) (fun h419 => ?_)
    · refine qs (qr (oN 4 [(20, vi (w64 ((w64 ((w64 (Int.fdiv (wu64 (w64 (x1 + x3))) 2)) + x2)) - x3)))] [19, 18, 0, 1, 2, 3, 4] ?_))
      refine oe (nt (qr (oN 2 [(21, vi (w64 (Int.fdiv (wu64 (w64 (x1 + x3))) 2)))] [20, 19, 18, 0, 1, 2, 3, 4] ?_)))
      exact oe (mp ((w64 (Int.fdiv (wu64 (w64 (x1 + x3))) 2), w64 ((w64 ((w64 (Int.fdiv (wu64 (w64 (x1 + x3))) 2)) + x2)) - x3)), ()) h418 [19, 18, 0, 1, 2, 3, 4, 21, 20] [0] 0)
    refine qs (qr (oN 2 [(20, vi x1)] [19, 18, 0, 1, 2, 3, 4] ?_))
    refine oe (nt (qr (oN 2 [(21, vi x2)] [20, 19, 18, 0, 1, 2, 3, 4] ?_)))
    exact oe (mp ((x2, x1), ()) h419 [19, 18, 0, 1, 2, 3, 4, 21, 20] [0] 0)
  have h304 := (congrFun hk303 _).symm.trans h304p
  refine nt (qs (qr (oN 3 [(22, vi (w64 ((w64 ((w64 (Int.fdiv (wu64 (w64 (x1 + x3))) 2)) + x2)) - 1)))] [19, 18, 0, 1, 2, 3, 4, 21, 20] ?_)))
  refine oe (nt (qs ?_))
  obtain ⟨r308, hL309, h310⟩ := bS h304
  obtain ⟨k311, hk312, h310⟩ := brkS h310
  refine JC_cutP (τ := (Int) × (Unit)) (fun y => k311 y.1 = some r) (fun y316 => [(19, vi (w64 ((w64 (Int.fdiv (wu64 (w64 (x1 + x3))) 2)) + x2))), (18, vi (w64 (Int.fdiv (wu64 (w64 (x1 + x3))) 2))), (0, .v (.slice a0_0 x0.length c0_0)), (1, vi x1), (2, vi x2), (3, vi x3), (4, .v (.func (.func 35) #[] #[.pointer (some ⟨g4_0, 0, none⟩), .pointer (some ⟨g4_1, 0, none⟩), .pointer (some ⟨g4_2, 0, none⟩)])), (20, vi y316.1)]) (fun y316 => []) (fun y316 => [SlRes e0_0 x0 a0_0 c0_0]) ?_ (fun y316 h317p => ?_)
  · refine qb (lp Unit hL309 (fun s305 y306 => [(22, vi (w64 ((w64 ((w64 (Int.fdiv (wu64 (w64 (x1 + x3))) 2)) + x2)) - 1))), (19, vi (w64 ((w64 (Int.fdiv (wu64 (w64 (x1 + x3))) 2)) + x2))), (18, vi (w64 (Int.fdiv (wu64 (w64 (x1 + x3))) 2))), (0, .v (.slice a0_0 x0.length c0_0)), (1, vi x1), (2, vi x2), (3, vi x3), (4, .v (.func (.func 35) #[] #[.pointer (some ⟨g4_0, 0, none⟩), .pointer (some ⟨g4_1, 0, none⟩), .pointer (some ⟨g4_2, 0, none⟩)])), (21, vi s305.1), (20, vi s305.2)]) (fun s305 y306 => []) (fun s305 y306 => [SlRes e0_0 x0 a0_0 c0_0]) () [22, 19, 18, 0, 1, 2, 3, 4, 21, 20] [0] 0 (fun s305 y306 t307 h313 hd314 => ?_))
    refine qs (qs (qr (oN 3 [(151, vb (decide (s305.2 < s305.1)))] [22, 19, 18, 0, 1, 2, 3, 4, 21, 20] ?_)))
    refine oe (nt (cC h313 (fun h400 => ?_) (fun h401 => ?_)))
    · refine qk (nt (qb (qs (qr (oN 7 [(23, vi (w64 (Int.fdiv (wu64 (w64 (s305.2 + s305.1))) 2)))] [22, 19, 18, 0, 1, 2, 3, 4, 21, 20] ?_)))))
      refine oe (nt (qs (JC_quiet (by kernel_rfl) (by kernel_rfl) ?_)))
      refine qN 5 [(162, vi (w64 ((w64 ((w64 ((w64 (Int.fdiv (wu64 (w64 (x1 + x3))) 2)) + x2)) - 1)) - (w64 (Int.fdiv (wu64 (w64 (s305.2 + s305.1))) 2))))), (159, .v (.slice a0_0 x0.length c0_0)), (158, .v (.func (.func 35) #[] #[.pointer (some ⟨g4_0, 0, none⟩), .pointer (some ⟨g4_1, 0, none⟩), .pointer (some ⟨g4_2, 0, none⟩)]))] [23, 22, 19, 18, 0, 1, 2, 3, 4, 21, 20] ?_
      obtain ⟨x402, hx403, h404⟩ := bS h400
      refine qi 1 (fun γ w hs => (hs.view 0 rfl)) hx403 ?_
      refine ql 3 0 (.int .i64 x402) (fun γ w hs => (hs.view 0 rfl).flatq hx403) ?_
      refine qN 2 [(166, vi (w64 (Int.fdiv (wu64 (w64 (s305.2 + s305.1))) 2))), (165, .v (.slice a0_0 x0.length c0_0))] [164, 158, 23, 22, 19, 18, 0, 1, 2, 3, 4, 21, 20] ?_
      obtain ⟨x405, hx406, h407⟩ := bS h404
      refine qi 1 (fun γ w hs => (hs.view 0 rfl)) hx406 ?_
      refine ql 3 0 (.int .i64 x405) (fun γ w hs => (hs.view 0 rfl).flatq hx406) ?_
      obtain ⟨t408, h409, h410⟩ := bS h407
      refine q0 (fun γ w hs => hq w hs.kept _ _ _ h409) ?_
      refine qN 2 [(171, vb (!(decide (t408 < 0))))] [23, 22, 19, 18, 0, 1, 2, 3, 4, 21, 20] ?_
      refine qz (nt (cC h410 (fun h413 => ?_) (fun h414 => ?_)))
      · refine qr (oN 3 [(20, vi (w64 ((w64 (Int.fdiv (wu64 (w64 (s305.2 + s305.1))) 2)) + 1)))] [22, 19, 18, 0, 1, 2, 3, 4, 21] ?_)
        exact oe (bn (ct h413 () [22, 19, 18, 0, 1, 2, 3, 4, 21, 20] [0] 0))
      refine qr (oN 2 [(21, vi (w64 (Int.fdiv (wu64 (w64 (s305.2 + s305.1))) 2)))] [22, 19, 18, 0, 1, 2, 3, 4, 20] ?_)
      exact oe (bn (ct h414 () [22, 19, 18, 0, 1, 2, 3, 4, 21, 20] [0] 0))
    refine qx (nx (nx (bh ?_)))
    have h415 := leafB hd314 h401 h310
    exact mp (s305.2, ()) h415 [19, 18, 0, 1, 2, 3, 4, 20] [0] 0
  have h317 := (congrFun hk312 _).symm.trans h317p
  refine nt (qs (qr (oN 4 [(24, vi (w64 ((w64 ((w64 (Int.fdiv (wu64 (w64 (x1 + x3))) 2)) + x2)) - y316.1)))] [18, 0, 1, 2, 3, 4, 20] ?_)))
  refine oe (nt (qs (qs ?_)))
  obtain ⟨p318, hE319, h320⟩ := bS h317
  refine JC_cut (τ := Unit) (fun _ => [(0, .v (.slice a0_0 x0.length c0_0)), (1, vi x1), (2, vi x2), (3, vi x3), (4, .v (.func (.func 35) #[] #[.pointer (some ⟨g4_0, 0, none⟩), .pointer (some ⟨g4_1, 0, none⟩), .pointer (some ⟨g4_2, 0, none⟩)])), (18, vi (w64 (Int.fdiv (wu64 (w64 (x1 + x3))) 2))), (20, vi y316.1), (24, vi (w64 ((w64 ((w64 (Int.fdiv (wu64 (w64 (x1 + x3))) 2)) + x2)) - y316.1))), (185, vb p318)]) (fun _ => []) (fun _ => [SlRes e0_0 x0 a0_0 c0_0]) ?_ (fun _ => ?_)
  · refine qr (oN 4 [(181, vb (decide (y316.1 < x2)))] [24, 18, 0, 1, 2, 3, 4, 20] ?_)
    refine oS 181 hE319 (fun h322 => ?_) (fun h323 => ?_)
    · refine oN 4 [(185, vb (decide (x2 < (w64 ((w64 ((w64 (Int.fdiv (wu64 (w64 (x1 + x3))) 2)) + x2)) - y316.1)))))] [24, 18, 0, 1, 2, 3, 4, 20] ?_
      refine oe ?_
      obtain rfl := sI h322
      exact mt () [0, 1, 2, 3, 4, 18, 20, 24, 185] [0] 0
    refine oN 4 [(185, vb false)] [24, 18, 0, 1, 2, 3, 4, 20] ?_
    refine oe ?_
    obtain rfl := sI h323
    exact mt () [0, 1, 2, 3, 4, 18, 20, 24, 185] [0] 0
  refine nt ?_
  obtain ⟨k335, hk336, h387⟩ := jS h320
  refine JC_cutP (τ := ((List Int)) × (Unit)) (fun y => k335 y.1 = some r) (fun y334 => [(0, .v (.slice a0_0 y334.1.length c0_0)), (1, vi x1), (3, vi x3), (4, .v (.func (.func 35) #[] #[.pointer (some ⟨g4_0, 0, none⟩), .pointer (some ⟨g4_1, 0, none⟩), .pointer (some ⟨g4_2, 0, none⟩)])), (18, vi (w64 (Int.fdiv (wu64 (w64 (x1 + x3))) 2))), (20, vi y316.1), (24, vi (w64 ((w64 ((w64 (Int.fdiv (wu64 (w64 (x1 + x3))) 2)) + x2)) - y316.1)))]) (fun y334 => []) (fun y334 => [SlRes e0_0 y334.1 a0_0 c0_0]) ?_ (fun y334 h337p => ?_)
  · refine cC h387 (fun h389 => ?_) (fun h390 => ?_)
    · refine qr (oN 5 [(190, .v (.func (.func 35) #[] #[.pointer (some ⟨g4_0, 0, none⟩), .pointer (some ⟨g4_1, 0, none⟩), .pointer (some ⟨g4_2, 0, none⟩)])), (189, vi (w64 ((w64 ((w64 (Int.fdiv (wu64 (w64 (x1 + x3))) 2)) + x2)) - y316.1))), (188, vi x2), (187, vi y316.1), (186, .v (.slice a0_0 x0.length c0_0))] [0, 1, 3, 4, 18, 20, 24] ?_)
      obtain ⟨t391, h392, h393⟩ := bS h389
      obtain ⟨u395, hu396, h397⟩ := bS h393
      have hl398 := (sameLen_some hu396).symm
      refine JO_callMQ rfl (by kernel_rfl) (f := 45) (C := fun γ => (fun w => ∀ (q0 : Int) (q1 : Int) (r : Int), impl_Allocate_1 q0 q1 z4_0 z4_1 z4_2 = some r → Gives0 Try.prog 35 #[.int .i64 q0, .int .i64 q1, .pointer (some ⟨g4_0, 0, none⟩), .pointer (some ⟨g4_1, 0, none⟩), .pointer (some ⟨g4_2, 0, none⟩)] w (.int .i64 r))) (args := fun γ => #[.slice a0_0 x0.length c0_0, .int .i64 y316.1, .int .i64 x2, .int .i64 (w64 ((w64 ((w64 (Int.fdiv (wu64 (w64 (x1 + x3))) 2)) + x2)) - y316.1)), .func (.func 35) #[] #[.pointer (some ⟨g4_0, 0, none⟩), .pointer (some ⟨g4_1, 0, none⟩), .pointer (some ⟨g4_2, 0, none⟩)]]) (fun γ => by kernel_rfl) (x := .tuple #[]) (Rin := [SlRes e0_0 x0 a0_0 c0_0]) (Rout := [SlRes e0_0 t391 a0_0 c0_0]) (Rr := []) rfl (fun γ w hs => (by have vv := c_slices_rotateCmpFunc_int__impl_Allocate_1 (e0_0 := e0_0) (a0_0 := a0_0) (c0_0 := c0_0) (g4_0 := g4_0) (g4_1 := g4_1) (g4_2 := g4_2) (W := w) h392; exact vv)) (fun γ w hk hb => hq w hk) (sl' := [(191, .v (.tuple #[])), (190, .v (.func (.func 35) #[] #[.pointer (some ⟨g4_0, 0, none⟩), .pointer (some ⟨g4_1, 0, none⟩), .pointer (some ⟨g4_2, 0, none⟩)])), (189, vi (w64 ((w64 ((w64 (Int.fdiv (wu64 (w64 (x1 + x3))) 2)) + x2)) - y316.1))), (188, vi x2), (187, vi y316.1), (186, .v (.slice a0_0 x0.length c0_0)), (0, .v (.slice a0_0 x0.length c0_0)), (1, vi x1), (3, vi x3), (4, .v (.func (.func 35) #[] #[.pointer (some ⟨g4_0, 0, none⟩), .pointer (some ⟨g4_1, 0, none⟩), .pointer (some ⟨g4_2, 0, none⟩)])), (18, vi (w64 (Int.fdiv (wu64 (w64 (x1 + x3))) 2))), (20, vi y316.1), (24, vi (w64 ((w64 ((w64 (Int.fdiv (wu64 (w64 (x1 + x3))) 2)) + x2)) - y316.1)))]) (by kernel_rfl) ?_
      refine JO_eqE (sl' := [(191, .v (.tuple #[])), (190, .v (.func (.func 35) #[] #[.pointer (some ⟨g4_0, 0, none⟩), .pointer (some ⟨g4_1, 0, none⟩), .pointer (some ⟨g4_2, 0, none⟩)])), (189, vi (w64 ((w64 ((w64 (Int.fdiv (wu64 (w64 (x1 + x3))) 2)) + x2)) - y316.1))), (188, vi x2), (187, vi y316.1), (186, .v (.slice a0_0 t391.length c0_0)), (0, .v (.slice a0_0 t391.length c0_0)), (1, vi x1), (3, vi x3), (4, .v (.func (.func 35) #[] #[.pointer (some ⟨g4_0, 0, none⟩), .pointer (some ⟨g4_1, 0, none⟩), .pointer (some ⟨g4_2, 0, none⟩)])), (18, vi (w64 (Int.fdiv (wu64 (w64 (x1 + x3))) 2))), (20, vi y316.1), (24, vi (w64 ((w64 ((w64 (Int.fdiv (wu64 (w64 (x1 + x3))) 2)) + x2)) - y316.1)))]) (bx' := []) (by simp only [hl398]) rfl ?_
      exact oe (mp (t391, ()) h397 [0, 1, 3, 4, 18, 20, 24] [0] 0)
    exact qk (mp (x0, ()) h390 [0, 1, 3, 4, 18, 20, 24] [0] 0)
  have h337 := (congrFun hk336 _).symm.trans h337p
  refine nt (qs (qs ?_))
  obtain ⟨p338, hE339, h340⟩ := bS h337
  refine JC_cut (τ := Unit) (fun _ => [(0, .v (.slice a0_0 y334.1.length c0_0)), (1, vi x1), (3, vi x3), (4, .v (.func (.func 35) #[] #[.pointer (some ⟨g4_0, 0, none⟩), .pointer (some ⟨g4_1, 0, none⟩), .pointer (some ⟨g4_2, 0, none⟩)])), (18, vi (w64 (Int.fdiv (wu64 (w64 (x1 + x3))) 2))), (20, vi y316.1), (24, vi (w64 ((w64 ((w64 (Int.fdiv (wu64 (w64 (x1 + x3))) 2)) + x2)) - y316.1))), (199, vb p338)]) (fun _ => []) (fun _ => [SlRes e0_0 y334.1 a0_0 c0_0]) ?_ (fun _ => ?_)
  · refine qr (oN 4 [(195, vb (decide (x1 < y316.1)))] [0, 1, 3, 4, 18, 20, 24] ?_)
    refine oS 195 hE339 (fun h342 => ?_) (fun h343 => ?_)
    · refine oN 4 [(199, vb (decide (y316.1 < (w64 (Int.fdiv (wu64 (w64 (x1 + x3))) 2)))))] [0, 1, 3, 4, 18, 20, 24] ?_
      refine oe ?_
      obtain rfl := sI h342
      exact mt () [0, 1, 3, 4, 18, 20, 24, 199] [0] 0
    refine oN 4 [(199, vb false)] [0, 1, 3, 4, 18, 20, 24] ?_
    refine oe ?_
    obtain rfl := sI h343
    exact mt () [0, 1, 3, 4, 18, 20, 24, 199] [0] 0
  refine nt ?_
  obtain ⟨k355, hk356, h375⟩ := jS h340
  refine JC_cutP (τ := ((List Int)) × (Unit)) (fun y => k355 y.1 = some r) (fun y354 => [(0, .v (.slice a0_0 y354.1.length c0_0)), (3, vi x3), (4, .v (.func (.func 35) #[] #[.pointer (some ⟨g4_0, 0, none⟩), .pointer (some ⟨g4_1, 0, none⟩), .pointer (some ⟨g4_2, 0, none⟩)])), (18, vi (w64 (Int.fdiv (wu64 (w64 (x1 + x3))) 2))), (24, vi (w64 ((w64 ((w64 (Int.fdiv (wu64 (w64 (x1 + x3))) 2)) + x2)) - y316.1)))]) (fun y354 => []) (fun y354 => [SlRes e0_0 y354.1 a0_0 c0_0]) ?_ (fun y354 h357p => ?_)
  · refine cC h375 (fun h377 => ?_) (fun h378 => ?_)
    · refine qr (oN 5 [(204, .v (.func (.func 35) #[] #[.pointer (some ⟨g4_0, 0, none⟩), .pointer (some ⟨g4_1, 0, none⟩), .pointer (some ⟨g4_2, 0, none⟩)])), (203, vi (w64 (Int.fdiv (wu64 (w64 (x1 + x3))) 2))), (202, vi y316.1), (201, vi x1), (200, .v (.slice a0_0 y334.1.length c0_0))] [0, 3, 4, 18, 24] ?_)
      obtain ⟨t379, h380, h381⟩ := bS h377
      obtain ⟨u383, hu384, h385⟩ := bS h381
      have hl386 := (sameLen_some hu384).symm
      refine JO_callMQ rfl (by kernel_rfl) (f := 44) (C := fun γ => (fun w => ∀ (q0 : Int) (q1 : Int) (r : Int), impl_Allocate_1 q0 q1 z4_0 z4_1 z4_2 = some r → Gives0 Try.prog 35 #[.int .i64 q0, .int .i64 q1, .pointer (some ⟨g4_0, 0, none⟩), .pointer (some ⟨g4_1, 0, none⟩), .pointer (some ⟨g4_2, 0, none⟩)] w (.int .i64 r))) (args := fun γ => #[.slice a0_0 y334.1.length c0_0, .int .i64 x1, .int .i64 y316.1, .int .i64 (w64 (Int.fdiv (wu64 (w64 (x1 + x3))) 2)), .func (.func 35) #[] #[.pointer (some ⟨g4_0, 0, none⟩), .pointer (some ⟨g4_1, 0, none⟩), .pointer (some ⟨g4_2, 0, none⟩)]]) (fun γ => by kernel_rfl) (x := .tuple #[]) (Rin := [SlRes e0_0 y334.1 a0_0 c0_0]) (Rout := [SlRes e0_0 t379 a0_0 c0_0]) (Rr := []) rfl (fun γ w hs => (by have vv := ih (e0_0 := e0_0) (a0_0 := a0_0) (c0_0 := c0_0) (g4_0 := g4_0) (g4_1 := g4_1) (g4_2 := g4_2) (W := w) h380; exact vv)) (fun γ w hk hb => hq w hk) (sl' := [(205, .v (.tuple #[])), (204, .v (.func (.func 35) #[] #[.pointer (some ⟨g4_0, 0, none⟩), .pointer (some ⟨g4_1, 0, none⟩), .pointer (some ⟨g4_2, 0, none⟩)])), (203, vi (w64 (Int.fdiv (wu64 (w64 (x1 + x3))) 2))), (202, vi y316.1), (201, vi x1), (200, .v (.slice a0_0 y334.1.length c0_0)), (0, .v (.slice a0_0 y334.1.length c0_0)), (3, vi x3), (4, .v (.func (.func 35) #[] #[.pointer (some ⟨g4_0, 0, none⟩), .pointer (some ⟨g4_1, 0, none⟩), .pointer (some ⟨g4_2, 0, none⟩)])), (18, vi (w64 (Int.fdiv (wu64 (w64 (x1 + x3))) 2))), (24, vi (w64 ((w64 ((w64 (Int.fdiv (wu64 (w64 (x1 + x3))) 2)) + x2)) - y316.1)))]) (by kernel_rfl) ?_
      refine JO_eqE (sl' := [(205, .v (.tuple #[])), (204, .v (.func (.func 35) #[] #[.pointer (some ⟨g4_0, 0, none⟩), .pointer (some ⟨g4_1, 0, none⟩), .pointer (some ⟨g4_2, 0, none⟩)])), (203, vi (w64 (Int.fdiv (wu64 (w64 (x1 + x3))) 2))), (202, vi y316.1), (201, vi x1), (200, .v (.slice a0_0 t379.length c0_0)), (0, .v (.slice a0_0 t379.length c0_0)), (3, vi x3), (4, .v (.func (.func 35) #[] #[.pointer (some ⟨g4_0, 0, none⟩), .pointer (some ⟨g4_1, 0, none⟩), .pointer (some ⟨g4_2, 0, none⟩)])), (18, vi (w64 (Int.fdiv (wu64 (w64 (x1 + x3))) 2))), (24, vi (w64 ((w64 ((w64 (Int.fdiv (wu64 (w64 (x1 + x3))) 2)) + x2)) - y316.1)))]) (bx' := []) (by simp only [hl386]) rfl ?_
      exact oe (mp (t379, ()) h385 [0, 3, 4, 18, 24] [0] 0)
    exact qk (mp (y334.1, ()) h378 [0, 3, 4, 18, 24] [0] 0)
  have h357 := (congrFun hk356 _).symm.trans h357p
  refine nt (qs ?_)
  obtain ⟨p358, hE359, h360⟩ := bS h357
  refine JC_cut (τ := Unit) (fun _ => [(0, .v (.slice a0_0 y354.1.length c0_0)), (3, vi x3), (4, .v (.func (.func 35) #[] #[.pointer (some ⟨g4_0, 0, none⟩), .pointer (some ⟨g4_1, 0, none⟩), .pointer (some ⟨g4_2, 0, none⟩)])), (18, vi (w64 (Int.fdiv (wu64 (w64 (x1 + x3))) 2))), (24, vi (w64 ((w64 ((w64 (Int.fdiv (wu64 (w64 (x1 + x3))) 2)) + x2)) - y316.1))), (213, vb p358)]) (fun _ => []) (fun _ => [SlRes e0_0 y354.1 a0_0 c0_0]) ?_ (fun _ => ?_)
  · refine qr (oN 4 [(209, vb (decide ((w64 (Int.fdiv (wu64 (w64 (x1 + x3))) 2)) < (w64 ((w64 ((w64 (Int.fdiv (wu64 (w64 (x1 + x3))) 2)) + x2)) - y316.1)))))] [0, 3, 4, 18, 24] ?_)
    refine oS 209 hE359 (fun h362 => ?_) (fun h363 => ?_)
    · refine oN 4 [(213, vb (decide ((w64 ((w64 ((w64 (Int.fdiv (wu64 (w64 (x1 + x3))) 2)) + x2)) - y316.1)) < x3)))] [0, 3, 4, 18, 24] ?_
      refine oe ?_
      obtain rfl := sI h362
      exact mt () [0, 3, 4, 18, 24, 213] [0] 0
    refine oN 4 [(213, vb false)] [0, 3, 4, 18, 24] ?_
    refine oe ?_
    obtain rfl := sI h363
    exact mt () [0, 3, 4, 18, 24, 213] [0] 0
  refine nt (cC h360 (fun h365 => ?_) (fun h366 => ?_))
  · refine qr (oN 5 [(218, .v (.func (.func 35) #[] #[.pointer (some ⟨g4_0, 0, none⟩), .pointer (some ⟨g4_1, 0, none⟩), .pointer (some ⟨g4_2, 0, none⟩)])), (217, vi x3), (216, vi (w64 ((w64 ((w64 (Int.fdiv (wu64 (w64 (x1 + x3))) 2)) + x2)) - y316.1))), (215, vi (w64 (Int.fdiv (wu64 (w64 (x1 + x3))) 2))), (214, .v (.slice a0_0 y354.1.length c0_0))] [0, 4] ?_)
    obtain ⟨t367, h368, h369⟩ := bS h365
    obtain ⟨u371, hu372, h373⟩ := bS h369
    have hl374 := (sameLen_some hu372).symm
    refine JO_callMQ rfl (by kernel_rfl) (f := 44) (C := fun γ => (fun w => ∀ (q0 : Int) (q1 : Int) (r : Int), impl_Allocate_1 q0 q1 z4_0 z4_1 z4_2 = some r → Gives0 Try.prog 35 #[.int .i64 q0, .int .i64 q1, .pointer (some ⟨g4_0, 0, none⟩), .pointer (some ⟨g4_1, 0, none⟩), .pointer (some ⟨g4_2, 0, none⟩)] w (.int .i64 r))) (args := fun γ => #[.slice a0_0 y354.1.length c0_0, .int .i64 (w64 (Int.fdiv (wu64 (w64 (x1 + x3))) 2)), .int .i64 (w64 ((w64 ((w64 (Int.fdiv (wu64 (w64 (x1 + x3))) 2)) + x2)) - y316.1)), .int .i64 x3, .func (.func 35) #[] #[.pointer (some ⟨g4_0, 0, none⟩), .pointer (some ⟨g4_1, 0, none⟩), .pointer (some ⟨g4_2, 0, none⟩)]]) (fun γ => by kernel_rfl) (x := .tuple #[]) (Rin := [SlRes e0_0 y354.1 a0_0 c0_0]) (Rout := [SlRes e0_0 t367 a0_0 c0_0]) (Rr := []) rfl (fun γ w hs => (by have vv := ih (e0_0 := e0_0) (a0_0 := a0_0) (c0_0 := c0_0) (g4_0 := g4_0) (g4_1 := g4_1) (g4_2 := g4_2) (W := w) h368; exact vv)) (fun γ w hk hb => hq w hk) (sl' := [(219, .v (.tuple #[])), (218, .v (.func (.func 35) #[] #[.pointer (some ⟨g4_0, 0, none⟩), .pointer (some ⟨g4_1, 0, none⟩), .pointer (some ⟨g4_2, 0, none⟩)])), (217, vi x3), (216, vi (w64 ((w64 ((w64 (Int.fdiv (wu64 (w64 (x1 + x3))) 2)) + x2)) - y316.1))), (215, vi (w64 (Int.fdiv (wu64 (w64 (x1 + x3))) 2))), (214, .v (.slice a0_0 y354.1.length c0_0)), (0, .v (.slice a0_0 y354.1.length c0_0)), (4, .v (.func (.func 35) #[] #[.pointer (some ⟨g4_0, 0, none⟩), .pointer (some ⟨g4_1, 0, none⟩), .pointer (some ⟨g4_2, 0, none⟩)]))]) (by kernel_rfl) ?_
    refine JO_eqE (sl' := [(219, .v (.tuple #[])), (218, .v (.func (.func 35) #[] #[.pointer (some ⟨g4_0, 0, none⟩), .pointer (some ⟨g4_1, 0, none⟩), .pointer (some ⟨g4_2, 0, none⟩)])), (217, vi x3), (216, vi (w64 ((w64 ((w64 (Int.fdiv (wu64 (w64 (x1 + x3))) 2)) + x2)) - y316.1))), (215, vi (w64 (Int.fdiv (wu64 (w64 (x1 + x3))) 2))), (214, .v (.slice a0_0 t367.length c0_0)), (0, .v (.slice a0_0 t367.length c0_0)), (4, .v (.func (.func 35) #[] #[.pointer (some ⟨g4_0, 0, none⟩), .pointer (some ⟨g4_1, 0, none⟩), .pointer (some ⟨g4_2, 0, none⟩)]))]) (bx' := []) (by simp only [hl374]) rfl ?_
    refine oe (JE_fall (vs := []) (by kernel_rfl) (fun γ w hs => ?_))
    rw [← sI h373]
    exact hs.turned (is := [0]) rfl
  refine qk (JE_fall (vs := []) (by kernel_rfl) (fun γ w hs => ?_))
  rw [← sI h366]
  exact hs.turned (is := [0]) rfl
end Go.Pen
