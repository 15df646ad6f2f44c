/-
  Each Go function does what its plain function says: written by a program of ours.
-/
import Derived.Test.YtlbmppekoblniaaF
import Derived.Test.YtlbmppekoblniaaProg
import Derived.Test.YtlbmppekoblniaaPenK
import Derived.Test.YtlbmppekoblniaaPenJ
import Derived.Test.YtlbmppekoblniaaPenP
import Derived.Test.YtlbmppekoblniaaPenM
namespace Go.Pen
open Go.Proofs Go.RowKit
set_option linter.unusedVariables false
set_option linter.unusedSimpArgs false
set_option maxRecDepth 100000
set_option maxHeartbeats 4000000

theorem c_laws_big {W : World} {x0 : List U8} {a0_0 : Option Addr} {c0_0 : Nat} {r : Bool} (h : laws_big x0 = some r) (hv0_0 : SlView W x0 a0_0 c0_0) :
    Gives0 Try.prog 15 #[.slice a0_0 x0.length c0_0] W (.bool r) := by
 unfold laws_big at h
 refine en Try.func15 Try.ntmps15 ?_
 refine qs (qr (oN 1 [] [0] ?_))
 refine oe (nt (qs (qr (oN 4 [(2, vb (decide ((x0.length : Int) > 1048576)))] [] ?_))))
 refine oe (nt (qe ?_))
 obtain rfl := sI h
 exact re [.bool (decide ((x0.length : Int) > 1048576))]

theorem c_spec_l01New {W : World} {x0 : List U8} {a0_0 : Option Addr} {c0_0 : Nat} {r : Int × Int} (h : spec_l01New x0 = some r) (hv0_0 : SlView W x0 a0_0 c0_0) :
    Gives Try.prog 31 #[.slice a0_0 x0.length c0_0] W (fun y : AC => (SV.q y.1 0).den []) (fun y => [CurRes 45 (CurD.mk x0 r.1 r.2) y.1 a0_0 c0_0]) := by
 unfold spec_l01New at h
 refine en Try.func31 Try.ntmps31 ?_
 refine qs (qr (oN 1 [] [0] ?_))
 refine oe (nt (qs (qr (oN 4 [(3, vi (w64 (98011 + (x0.length : Int))))] [0] ?_))))
 refine oe (nt (qs (qs (qr (oN 1 [(4, vi 0)] [3, 0] ?_)))))
 refine oe (nt ?_)
 obtain ⟨r24, hL25, h26⟩ := bS h
 obtain ⟨k27, hk28, h26⟩ := brkS h26
 refine JC_cutP (τ := (Int) × (Unit)) (fun y => k27 y.1 = some r) (fun y32 => [(3, vi y32.1), (0, .v (.slice a0_0 x0.length c0_0))]) (fun y32 => []) (fun y32 => []) ?_ (fun y32 h33p => ?_)
 · refine qb (lp Unit hL25 (fun s21 y22 => [(4, vi s21.1), (3, vi s21.2), (0, .v (.slice a0_0 x0.length c0_0))]) (fun s21 y22 => []) (fun s21 y22 => []) () [4, 3, 0] [] 0 (fun s21 y22 t23 h29 hd30 => ?_))
   refine qs (qs ?_)
   obtain ⟨p35, hE36, h37⟩ := bS h29
   refine JC_cut (τ := Unit) (fun _ => [(0, .v (.slice a0_0 x0.length c0_0)), (3, vi s21.2), (4, vi s21.1), (15, vb p35)]) (fun _ => []) (fun _ => []) ?_ (fun _ => ?_)
   · refine qr (oN 5 [(12, vb (decide (s21.1 < (x0.length : Int))))] [4, 3, 0] ?_)
     refine oS 12 hE36 (fun h39 => ?_) (fun h40 => ?_)
     · refine oN 3 [(15, vb (decide (s21.1 < 4000)))] [4, 3, 0] ?_
       refine oe ?_
       obtain rfl := sI h39
       exact mt () [0, 3, 4, 15] [] 0
     refine oN 3 [(15, vb false)] [4, 3, 0] ?_
     refine oe ?_
     obtain rfl := sI h40
     exact mt () [0, 3, 4, 15] [] 0
   refine nt (cC h37 (fun h42 => ?_) (fun h43 => ?_))
   · refine qk (nt (qs (qb (qr (oN 4 [(21, vi s21.1), (20, .v (.slice a0_0 x0.length c0_0)), (19, vi (w64 (s21.2 * 131)))] [0, 4] ?_)))))
     obtain ⟨x44, hx45, h46⟩ := bS h42
     refine oi 1 (fun γ w hs => (hv0_0.kept hs.kept)) hx45 ?_
     refine ol 5 0 (.int .u8 x44.n) (fun γ w hs => (hv0_0.kept hs.kept).flatq hx45) ?_
     refine oN 5 [(3, vi (and64 (w64 ((w64 ((w64 (s21.2 * 131)) + (w64 x44.n))) + 7)) 1073741823))] [0, 4] ?_
     refine oe (bn (nt (qr (oN 3 [(4, vi (w64 (s21.1 + 1)))] [3, 0] ?_))))
     exact oe (ct h46 () [4, 3, 0] [] 0)
   refine qx (nx (nx (bh ?_)))
   have h47 := leafB hd30 h43 h26
   exact mp (s21.2, ()) h47 [3, 0] [] 0
 have h33 := (congrFun hk28 _).symm.trans h33p
 refine nt (qs (qr (oN 3 [(30, .v (.agg #[.slice a0_0 x0.length c0_0, .int .i64 0, .int .i64 y32.1]))] [] ?_)))
 refine JO_newcur rfl (by kernel_rfl) (e := 45) (x := (CurD.mk x0 0 y32.1)) (a0 := a0_0) (c := c0_0) (cs := curCells (CurD.mk x0 0 y32.1) a0_0 c0_0) (by kernel_rfl) rfl (fun y34 => [(31, .q y34.1 0), (30, .v (.agg #[.slice a0_0 x0.length c0_0, .int .i64 0, .int .i64 y32.1]))]) (fun y34 => by kernel_rfl) (fun y34 => ?_)
 refine oN 1 [(2, .q y34.1 0)] [] ?_
 refine oe (nt (qe (JE_q1 ?_)))
 refine rt [(SV.q y34.1 0).den []] (fun γ w hs => ?_)
 rw [← sI h33]
 exact ⟨y34, rfl, hs.kept.toBelow, (hs.takeR (is := [0]) rfl).fresh⟩

theorem c_spec_l01Byte {W : World} {xb0 : List U8} {xi0 xh0 : Int} {p0 ca0 : Option Addr} {cc0 : Nat} {r : Int × Int × Int} (h : spec_l01Byte xb0 xi0 xh0 = some r) (hv0_0 : SlView W xb0 ca0 cc0) :
    GivesC Try.prog 45 37 #[(SV.q p0 0).den []] W (CurD.mk xb0 xi0 xh0) p0 ca0 cc0 (CurD.mk xb0 r.2.1 r.2.2) (fun y : Unit => .int .i64 r.1) (fun y => []) := by
 unfold spec_l01Byte at h
 refine enterC [.q p0 0] (args := [(SV.q p0 0).den []]) hv0_0 (by kernel_rfl) (by kernel_rfl) Try.func37 rfl Try.ntmps37 (by kernel_rfl) (fun g hg hs0 => ?_)
 refine qs (qr (oN 1 [] [0] ?_))
 refine oe (nt (qs (qr (oN 2 [(5, .q p0 0), (4, .q p0 0)] [0] ?_))))
 refine JO_nilq rfl (by kernel_rfl) (d := p0) (k := 0) (by kernel_rfl) (sl' := [(6, .q p0 0), (5, .q p0 0), (4, .q p0 0), (0, .q p0 0)]) (by kernel_rfl) ?_
 refine oN 1 [(7, .q p0 (0 + 2))] [4, 0] ?_
 refine ol 3 2 (.int .i64 xh0) (fun γ w hs => hs.cur 0 rfl) ?_
 refine oN 2 [(10, vi (w64 ((w64 (xh0 * 6364136223846793005)) + 1442695040888963407)))] [4, 0] ?_
 refine JO_nilq rfl (by kernel_rfl) (d := p0) (k := 0) (by kernel_rfl) (sl' := [(11, .q p0 0), (10, vi (w64 ((w64 (xh0 * 6364136223846793005)) + 1442695040888963407))), (4, .q p0 0), (0, .q p0 0)]) (by kernel_rfl) ?_
 refine oN 1 [(12, .q p0 (0 + 2))] [10, 0] ?_
 refine JO_cstore (e := 45) (x := CurD.mk xb0 xi0 xh0) (x' := CurD.mk xb0 xi0 (w64 ((w64 (xh0 * 6364136223846793005)) + 1442695040888963407))) (p := p0) (a0 := ca0) (c := cc0) rfl (by kernel_rfl) (2) (vs := [.int .i64 (w64 ((w64 (xh0 * 6364136223846793005)) + 1442695040888963407))]) (by kernel_rfl) (by kernel_rfl) (by kernel_rfl) (Rr := []) rfl (sl' := [(12, .q p0 (0 + 2)), (10, vi (w64 ((w64 (xh0 * 6364136223846793005)) + 1442695040888963407))), (0, .q p0 0)]) (by kernel_rfl) ?_
 refine oe (nt (qs (JC_quiet (by kernel_rfl) (by kernel_rfl) ?_)))
 refine qN 1 [(13, .q p0 0)] [0] ?_
 refine JQ_nilq rfl (by kernel_rfl) (d := p0) (k := 0) (by kernel_rfl) (sl' := [(14, .q p0 0), (13, .q p0 0), (0, .q p0 0)]) (by kernel_rfl) ?_
 refine qN 1 [(15, .q p0 (0 + 2))] [0] ?_
 refine ql 3 2 (.int .i64 (w64 ((w64 (xh0 * 6364136223846793005)) + 1442695040888963407))) (fun γ w hs => hs.cur 0 rfl) ?_
 refine qN 2 [(18, .q p0 0), (17, vi (Int.fdiv (w64 ((w64 (xh0 * 6364136223846793005)) + 1442695040888963407)) 8589934592))] [0] ?_
 refine JQ_nilq rfl (by kernel_rfl) (d := p0) (k := 0) (by kernel_rfl) (sl' := [(19, .q p0 0), (18, .q p0 0), (17, vi (Int.fdiv (w64 ((w64 (xh0 * 6364136223846793005)) + 1442695040888963407)) 8589934592)), (0, .q p0 0)]) (by kernel_rfl) ?_
 refine qN 1 [(20, .q p0 (0 + 2))] [17, 0] ?_
 refine ql 3 2 (.int .i64 (w64 ((w64 (xh0 * 6364136223846793005)) + 1442695040888963407))) (fun γ w hs => hs.cur 0 rfl) ?_
 refine qN 4 [(3, vi (and64 (xor64 (Int.fdiv (w64 ((w64 (xh0 * 6364136223846793005)) + 1442695040888963407)) 8589934592) (Int.fdiv (w64 ((w64 (xh0 * 6364136223846793005)) + 1442695040888963407)) 35184372088832)) 255))] [0] ?_
 refine qz (nt (qs (qs (JC_quiet (by kernel_rfl) (by kernel_rfl) ?_))))
 refine qN 1 [(25, .q p0 0)] [3, 0] ?_
 refine JQ_nilq rfl (by kernel_rfl) (d := p0) (k := 0) (by kernel_rfl) (sl' := [(26, .q p0 0), (25, .q p0 0), (3, vi (and64 (xor64 (Int.fdiv (w64 ((w64 (xh0 * 6364136223846793005)) + 1442695040888963407)) 8589934592) (Int.fdiv (w64 ((w64 (xh0 * 6364136223846793005)) + 1442695040888963407)) 35184372088832)) 255)), (0, .q p0 0)]) (by kernel_rfl) ?_
 refine qN 1 [(27, .q p0 (0 + 1))] [3, 0] ?_
 refine ql 3 1 (.int .i64 xi0) (fun γ w hs => hs.cur 0 rfl) ?_
 refine qN 1 [(29, .q p0 0)] [28, 3, 0] ?_
 refine JQ_nilq rfl (by kernel_rfl) (d := p0) (k := 0) (by kernel_rfl) (sl' := [(30, .q p0 0), (29, .q p0 0), (28, vi xi0), (3, vi (and64 (xor64 (Int.fdiv (w64 ((w64 (xh0 * 6364136223846793005)) + 1442695040888963407)) 8589934592) (Int.fdiv (w64 ((w64 (xh0 * 6364136223846793005)) + 1442695040888963407)) 35184372088832)) 255)), (0, .q p0 0)]) (by kernel_rfl) ?_
 refine qN 1 [(31, .q p0 (0))] [28, 3, 0] ?_
 refine ql 30 0 (.slice ca0 xb0.length cc0) (fun γ w hs => hs.cur 0 rfl) ?_
 refine qN 2 [(34, vb (decide (xi0 < (xb0.length : Int))))] [3, 0] ?_
 refine qz (nt ?_)
 obtain ⟨k27, hk28, h30⟩ := jS h
 refine JC_cutP (τ := (Int × Int) × (Unit)) (fun y => k27 y.1 = some r) (fun y26 => [(3, vi y26.1.1), (0, .q p0 0)]) (fun y26 => []) (fun y26 => [CurRes 45 (CurD.mk xb0 y26.1.2 (w64 ((w64 (xh0 * 6364136223846793005)) + 1442695040888963407))) p0 ca0 cc0]) ?_ (fun y26 h29p => ?_)
 · refine cC h30 (fun h32 => ?_) (fun h33 => ?_)
   · refine qs (JC_quiet (by kernel_rfl) (by kernel_rfl) ?_)
     refine qN 2 [(36, .q p0 0), (35, vi (and64 (xor64 (Int.fdiv (w64 ((w64 (xh0 * 6364136223846793005)) + 1442695040888963407)) 8589934592) (Int.fdiv (w64 ((w64 (xh0 * 6364136223846793005)) + 1442695040888963407)) 35184372088832)) 255))] [0] ?_
     refine JQ_nilq rfl (by kernel_rfl) (d := p0) (k := 0) (by kernel_rfl) (sl' := [(37, .q p0 0), (36, .q p0 0), (35, vi (and64 (xor64 (Int.fdiv (w64 ((w64 (xh0 * 6364136223846793005)) + 1442695040888963407)) 8589934592) (Int.fdiv (w64 ((w64 (xh0 * 6364136223846793005)) + 1442695040888963407)) 35184372088832)) 255)), (0, .q p0 0)]) (by kernel_rfl) ?_
     refine qN 1 [(38, .q p0 (0))] [35, 0] ?_
     refine ql 30 0 (.slice ca0 xb0.length cc0) (fun γ w hs => hs.cur 0 rfl) ?_
     refine qN 1 [(40, .q p0 0)] [39, 35, 0] ?_
     refine JQ_nilq rfl (by kernel_rfl) (d := p0) (k := 0) (by kernel_rfl) (sl' := [(41, .q p0 0), (40, .q p0 0), (39, .v (.slice ca0 xb0.length cc0)), (35, vi (and64 (xor64 (Int.fdiv (w64 ((w64 (xh0 * 6364136223846793005)) + 1442695040888963407)) 8589934592) (Int.fdiv (w64 ((w64 (xh0 * 6364136223846793005)) + 1442695040888963407)) 35184372088832)) 255)), (0, .q p0 0)]) (by kernel_rfl) ?_
     refine qN 1 [(42, .q p0 (0 + 1))] [39, 35, 0] ?_
     refine ql 3 1 (.int .i64 xi0) (fun γ w hs => hs.cur 0 rfl) ?_
     obtain ⟨x34, hx35, h36⟩ := bS h32
     refine qi 1 (fun γ w hs => (hs0.kept hs.kept)) hx35 ?_
     refine ql 5 0 (.int .u8 x34.n) (fun γ w hs => (hs0.kept hs.kept).flatq hx35) ?_
     refine qN 4 [(3, vi (and64 (w64 ((and64 (xor64 (Int.fdiv (w64 ((w64 (xh0 * 6364136223846793005)) + 1442695040888963407)) 8589934592) (Int.fdiv (w64 ((w64 (xh0 * 6364136223846793005)) + 1442695040888963407)) 35184372088832)) 255) + (w64 x34.n))) 255))] [0] ?_
     refine qz (nt (qr (oN 2 [(50, .q p0 0), (49, .q p0 0)] [3, 0] ?_)))
     refine JO_nilq rfl (by kernel_rfl) (d := p0) (k := 0) (by kernel_rfl) (sl' := [(51, .q p0 0), (50, .q p0 0), (49, .q p0 0), (3, vi (and64 (w64 ((and64 (xor64 (Int.fdiv (w64 ((w64 (xh0 * 6364136223846793005)) + 1442695040888963407)) 8589934592) (Int.fdiv (w64 ((w64 (xh0 * 6364136223846793005)) + 1442695040888963407)) 35184372088832)) 255) + (w64 x34.n))) 255)), (0, .q p0 0)]) (by kernel_rfl) ?_
     refine oN 1 [(52, .q p0 (0 + 1))] [49, 3, 0] ?_
     refine ol 3 1 (.int .i64 xi0) (fun γ w hs => hs.cur 0 rfl) ?_
     refine oN 1 [(54, vi (w64 (xi0 + 1)))] [49, 3, 0] ?_
     refine JO_nilq rfl (by kernel_rfl) (d := p0) (k := 0) (by kernel_rfl) (sl' := [(55, .q p0 0), (54, vi (w64 (xi0 + 1))), (49, .q p0 0), (3, vi (and64 (w64 ((and64 (xor64 (Int.fdiv (w64 ((w64 (xh0 * 6364136223846793005)) + 1442695040888963407)) 8589934592) (Int.fdiv (w64 ((w64 (xh0 * 6364136223846793005)) + 1442695040888963407)) 35184372088832)) 255) + (w64 x34.n))) 255)), (0, .q p0 0)]) (by kernel_rfl) ?_
     refine oN 1 [(56, .q p0 (0 + 1))] [54, 3, 0] ?_
     refine JO_cstore (e := 45) (x := CurD.mk xb0 xi0 (w64 ((w64 (xh0 * 6364136223846793005)) + 1442695040888963407))) (x' := CurD.mk xb0 (w64 (xi0 + 1)) (w64 ((w64 (xh0 * 6364136223846793005)) + 1442695040888963407))) (p := p0) (a0 := ca0) (c := cc0) rfl (by kernel_rfl) (1) (vs := [.int .i64 (w64 (xi0 + 1))]) (by kernel_rfl) (by kernel_rfl) (by kernel_rfl) (Rr := []) rfl (sl' := [(56, .q p0 (0 + 1)), (54, vi (w64 (xi0 + 1))), (3, vi (and64 (w64 ((and64 (xor64 (Int.fdiv (w64 ((w64 (xh0 * 6364136223846793005)) + 1442695040888963407)) 8589934592) (Int.fdiv (w64 ((w64 (xh0 * 6364136223846793005)) + 1442695040888963407)) 35184372088832)) 255) + (w64 x34.n))) 255)), (0, .q p0 0)]) (by kernel_rfl) ?_
     exact oe (mp ((and64 (w64 ((and64 (xor64 (Int.fdiv (w64 ((w64 (xh0 * 6364136223846793005)) + 1442695040888963407)) 8589934592) (Int.fdiv (w64 ((w64 (xh0 * 6364136223846793005)) + 1442695040888963407)) 35184372088832)) 255) + (w64 x34.n))) 255, w64 (xi0 + 1)), ()) h36 [3, 0] [0] 0)
   exact qk (mp ((and64 (xor64 (Int.fdiv (w64 ((w64 (xh0 * 6364136223846793005)) + 1442695040888963407)) 8589934592) (Int.fdiv (w64 ((w64 (xh0 * 6364136223846793005)) + 1442695040888963407)) 35184372088832)) 255, xi0), ()) h33 [3, 0] [0] 0)
 have h29 := (congrFun hk28 _).symm.trans h29p
 refine nt (qs (qr (oN 2 [(2, vi y26.1.1)] [0] ?_)))
 refine oe (nt (qe (rt [.int .i64 y26.1.1] (fun γ w hs => ?_))))
 rw [← sI h29]
 exact hs.curPost hg () (is := [0]) rfl

theorem c_spec_l01Below {W : World} {xb0 : List U8} {xi0 xh0 : Int} {p0 ca0 : Option Addr} {cc0 : Nat} {x1 : Int} {r : Int × Int × Int} (h : spec_l01Below xb0 xi0 xh0 x1 = some r) (hv0_0 : SlView W xb0 ca0 cc0) :
    GivesC Try.prog 45 32 #[(SV.q p0 0).den [], .int .i64 x1] W (CurD.mk xb0 xi0 xh0) p0 ca0 cc0 (CurD.mk xb0 r.2.1 r.2.2) (fun y : Unit => .int .i64 r.1) (fun y => []) := by
 unfold spec_l01Below at h
 refine enterC [.q p0 0, vi x1] (args := [(SV.q p0 0).den [], .int .i64 x1]) hv0_0 (by kernel_rfl) (by kernel_rfl) Try.func32 rfl Try.ntmps32 (by kernel_rfl) (fun g hg hs0 => ?_)
 refine qs (qr (oN 1 [] [0, 1] ?_))
 refine oe (nt (qs (qs (qr (oN 2 [(10, vb (decide (x1 ≤ 0)))] [0, 1] ?_)))))
 refine oe (nt (cC h (fun h22 => ?_) (fun h23 => ?_)))
 · refine qs (qr (oN 1 [(4, vi 0)] [0] ?_))
   refine oe (nt (qe (nr (rt [.int .i64 0] (fun γ w hs => ?_)))))
   rw [← sI h22]
   exact hs.curPost hg () (is := [0]) rfl
 refine qk (nt (qs (qs (qr (oN 2 [(12, vb (decide (x1 ≤ 256)))] [0, 1] ?_)))))
 refine oe (nt (cC h23 (fun h32 => ?_) (fun h33 => ?_)))
 · refine qs (qr (oN 1 [(13, .q p0 0)] [0, 1] ?_))
   obtain ⟨t34, h35, h36⟩ := bS h32
   refine JO_callC rfl (by kernel_rfl) (f := 37) (args := fun γ => #[(SV.q p0 0).den []]) (fun γ => by kernel_rfl) (x0 := CurD.mk xb0 xi0 xh0) (x1 := CurD.mk xb0 t34.2.1 t34.2.2) (Rr := []) rfl hs0 (fun γ w hs => (by have vv := c_spec_l01Byte (p0 := p0) (W := w) h35 (hs0.kept hs.kept); exact vv)) (fun (y37 : Unit) => [(14, vi t34.1), (13, .q p0 0), (0, .q p0 0), (1, vi x1)]) (fun y37 => by kernel_rfl) (fun y37 => ?_)
   refine oN 1 [(15, vi x1)] [14, 0] ?_
   obtain ⟨u40, hz39, h38⟩ := bS h36
   refine JO_div rfl (by kernel_rfl) (op := .rem) (k := .i64) (x := t34.1) (y := x1) (by kernel_rfl) (nz_some hz39) rfl ?_
   refine oN 1 [(4, vi (Int.tmod t34.1 x1))] [0] ?_
   refine oe (nt (qe (nr (rt [.int .i64 (Int.tmod t34.1 x1)] (fun γ w hs => ?_)))))
   rw [← sI h38]
   exact hs.curPost hg () (is := [0]) rfl
 refine qk (nt (qs (qr (oN 1 [(17, .q p0 0)] [0, 1] ?_))))
 obtain ⟨t41, h42, h43⟩ := bS h33
 refine JO_callC rfl (by kernel_rfl) (f := 37) (args := fun γ => #[(SV.q p0 0).den []]) (fun γ => by kernel_rfl) (x0 := CurD.mk xb0 xi0 xh0) (x1 := CurD.mk xb0 t41.2.1 t41.2.2) (Rr := []) rfl hs0 (fun γ w hs => (by have vv := c_spec_l01Byte (p0 := p0) (W := w) h42 (hs0.kept hs.kept); exact vv)) (fun (y44 : Unit) => [(18, vi t41.1), (17, .q p0 0), (0, .q p0 0), (1, vi x1)]) (fun y44 => by kernel_rfl) (fun y44 => ?_)
 refine oN 1 [(5, vi t41.1)] [0, 1] ?_
 refine oe (nt (qs (qr (oN 1 [(19, .q p0 0)] [5, 0, 1] ?_))))
 obtain ⟨t45, h46, h47⟩ := bS h43
 refine JO_callC rfl (by kernel_rfl) (f := 37) (args := fun γ => #[(SV.q p0 0).den []]) (fun γ => by kernel_rfl) (x0 := CurD.mk xb0 t41.2.1 t41.2.2) (x1 := CurD.mk xb0 t45.2.1 t45.2.2) (Rr := []) rfl hs0 (fun γ w hs => (by have vv := c_spec_l01Byte (p0 := p0) (W := w) h46 (hs0.kept hs.kept); exact vv)) (fun (y48 : Unit) => [(20, vi t45.1), (19, .q p0 0), (5, vi t41.1), (0, .q p0 0), (1, vi x1)]) (fun y48 => by kernel_rfl) (fun y48 => ?_)
 refine oN 1 [(6, vi t45.1)] [5, 0, 1] ?_
 refine oe (nt (qs (qr (oN 1 [(21, .q p0 0)] [6, 5, 0, 1] ?_))))
 obtain ⟨t49, h50, h51⟩ := bS h47
 refine JO_callC rfl (by kernel_rfl) (f := 37) (args := fun γ => #[(SV.q p0 0).den []]) (fun γ => by kernel_rfl) (x0 := CurD.mk xb0 t45.2.1 t45.2.2) (x1 := CurD.mk xb0 t49.2.1 t49.2.2) (Rr := []) rfl hs0 (fun γ w hs => (by have vv := c_spec_l01Byte (p0 := p0) (W := w) h50 (hs0.kept hs.kept); exact vv)) (fun (y52 : Unit) => [(22, vi t49.1), (21, .q p0 0), (6, vi t45.1), (5, vi t41.1), (0, .q p0 0), (1, vi x1)]) (fun y52 => by kernel_rfl) (fun y52 => ?_)
 refine oN 1 [(7, vi t49.1)] [6, 5, 0, 1] ?_
 refine oe (nt (qs (qr (oN 1 [(23, .q p0 0)] [7, 6, 5, 0, 1] ?_))))
 obtain ⟨t53, h54, h55⟩ := bS h51
 refine JO_callC rfl (by kernel_rfl) (f := 37) (args := fun γ => #[(SV.q p0 0).den []]) (fun γ => by kernel_rfl) (x0 := CurD.mk xb0 t49.2.1 t49.2.2) (x1 := CurD.mk xb0 t53.2.1 t53.2.2) (Rr := []) rfl hs0 (fun γ w hs => (by have vv := c_spec_l01Byte (p0 := p0) (W := w) h54 (hs0.kept hs.kept); exact vv)) (fun (y56 : Unit) => [(24, vi t53.1), (23, .q p0 0), (7, vi t49.1), (6, vi t45.1), (5, vi t41.1), (0, .q p0 0), (1, vi x1)]) (fun y56 => by kernel_rfl) (fun y56 => ?_)
 refine oN 1 [(8, vi t53.1)] [7, 6, 5, 0, 1] ?_
 refine oe (nt (qs (qr (oN 11 [(35, vi x1), (34, vi (w64 ((w64 ((w64 ((w64 (t41.1 * 16777216)) + (w64 (t45.1 * 65536)))) + (w64 (t49.1 * 256)))) + t53.1)))] [0] ?_))))
 obtain ⟨u59, hz58, h57⟩ := bS h55
 refine JO_div rfl (by kernel_rfl) (op := .rem) (k := .i64) (x := (w64 ((w64 ((w64 ((w64 (t41.1 * 16777216)) + (w64 (t45.1 * 65536)))) + (w64 (t49.1 * 256)))) + t53.1))) (y := x1) (by kernel_rfl) (nz_some hz58) rfl ?_
 refine oN 1 [(4, vi (Int.tmod (w64 ((w64 ((w64 ((w64 (t41.1 * 16777216)) + (w64 (t45.1 * 65536)))) + (w64 (t49.1 * 256)))) + t53.1)) x1))] [0] ?_
 refine oe (nt (qe (rt [.int .i64 (Int.tmod (w64 ((w64 ((w64 ((w64 (t41.1 * 16777216)) + (w64 (t45.1 * 65536)))) + (w64 (t49.1 * 256)))) + t53.1)) x1)] (fun γ w hs => ?_))))
 rw [← sI h57]
 exact hs.curPost hg () (is := [0]) rfl

theorem c_spec_l31Pensions {W : World} {xb0 : List U8} {xi0 xh0 : Int} {p0 ca0 : Option Addr} {cc0 : Nat} {r : (List Int) × Int × Int} (h : spec_l31Pensions xb0 xi0 xh0 = some r) (hv0_0 : SlView W xb0 ca0 cc0) :
    GivesC Try.prog 45 30 #[(SV.q p0 0).den []] W (CurD.mk xb0 xi0 xh0) p0 ca0 cc0 (CurD.mk xb0 r.2.1 r.2.2) (fun y : AC => .slice y.1 r.1.length y.2) (fun y => [SlRes 3 r.1 y.1 y.2]) := by
 unfold spec_l31Pensions at h
 refine enterC [.q p0 0] (args := [(SV.q p0 0).den []]) hv0_0 (by kernel_rfl) (by kernel_rfl) Try.func30 rfl Try.ntmps30 (by kernel_rfl) (fun g hg hs0 => ?_)
 refine qs (qr (oN 1 [] [0] ?_))
 refine oe (nt (qs (qr (ob [] [CurRes 45 (CurD.mk xb0 xi0 xh0) p0 ca0 cc0] 3 0 [] ([] : List Int) (own_flat (by kernel_rfl)) (fun y21 => ?_)))))
 refine oN 1 [(3, .v (.slice y21.1 ([] : List Int).length y21.2))] [0] ?_
 refine oe (nt (qs (qs (qr (oN 1 [(4, vi 0)] [3, 0] ?_)))))
 refine oe (nt ?_)
 obtain ⟨r26, hL27, h28⟩ := bS h
 obtain ⟨k29, hk30, h28⟩ := brkS h28
 refine JC_cutP (τ := ((List Int) × Int × Int) × (AC)) (fun y => k29 y.1 = some r) (fun y34 => [(3, .v (.slice y34.2.1 y34.1.1.length y34.2.2)), (0, .q p0 0)]) (fun y34 => []) (fun y34 => [SlRes 3 y34.1.1 y34.2.1 y34.2.2, CurRes 45 (CurD.mk xb0 y34.1.2.1 y34.1.2.2) p0 ca0 cc0]) ?_ (fun y34 h35p => ?_)
 · refine qb (lp AC hL27 (fun s23 y24 => [(4, vi s23.1), (3, .v (.slice y24.1 s23.2.1.length y24.2)), (0, .q p0 0)]) (fun s23 y24 => []) (fun s23 y24 => [SlRes 3 s23.2.1 y24.1 y24.2, CurRes 45 (CurD.mk xb0 s23.2.2.1 s23.2.2.2) p0 ca0 cc0]) (y21.1, y21.2) [4, 3, 0] [0, 0] 0 (fun s23 y24 t25 h31 hd32 => ?_))
   refine qs (qs (qr (oN 2 [(7, .q p0 0), (6, vi s23.1)] [4, 3, 0] ?_)))
   refine or_ [1, 0] ?_
   obtain ⟨t36, h37, h38⟩ := bS h31
   refine JO_callC rfl (by kernel_rfl) (f := 32) (args := fun γ => #[(SV.q p0 0).den [], .int .i64 9]) (fun γ => by kernel_rfl) (x0 := CurD.mk xb0 s23.2.2.1 s23.2.2.2) (x1 := CurD.mk xb0 t36.2.1 t36.2.2) (Rr := [SlRes 3 s23.2.1 y24.1 y24.2]) rfl hs0 (fun γ w hs => (by have vv := c_spec_l01Below (p0 := p0) (W := w) h37 (hs0.kept hs.kept); exact vv)) (fun (y39 : Unit) => [(8, vi t36.1), (7, .q p0 0), (6, vi s23.1), (4, vi s23.1), (3, .v (.slice y24.1 s23.2.1.length y24.2)), (0, .q p0 0)]) (fun y39 => by kernel_rfl) (fun y39 => ?_)
   refine oN 1 [(9, vb (decide (s23.1 < t36.1)))] [4, 3, 0] ?_
   refine oe (nt (cC h38 (fun h41 => ?_) (fun h42 => ?_)))
   · refine qk (nt (qs (qb (qr (oN 2 [(13, .q p0 0), (12, .v (.slice y24.1 s23.2.1.length y24.2))] [4, 0] ?_)))))
     obtain ⟨t43, h44, h45⟩ := bS h41
     refine JO_callC rfl (by kernel_rfl) (f := 32) (args := fun γ => #[(SV.q p0 0).den [], .int .i64 4000]) (fun γ => by kernel_rfl) (x0 := CurD.mk xb0 t36.2.1 t36.2.2) (x1 := CurD.mk xb0 t43.2.1 t43.2.2) (Rr := [SlRes 3 s23.2.1 y24.1 y24.2]) rfl hs0 (fun γ w hs => (by have vv := c_spec_l01Below (p0 := p0) (W := w) h44 (hs0.kept hs.kept); exact vv)) (fun (y46 : Unit) => [(14, vi t43.1), (13, .q p0 0), (12, .v (.slice y24.1 s23.2.1.length y24.2)), (4, vi s23.1), (0, .q p0 0)]) (fun y46 => by kernel_rfl) (fun y46 => ?_)
     refine oN 1 [(15, vi (w64 (t43.1 * 25)))] [12, 4, 0] ?_
     refine ob [] [CurRes 45 (CurD.mk xb0 t43.2.1 t43.2.2) p0 ca0 cc0, SlRes 3 s23.2.1 y24.1 y24.2] 3 1 [.int .i64 (w64 (t43.1 * 25))] ([w64 (t43.1 * 25)] : List Int) (own_flat (by kernel_rfl)) (fun y47 => ?_)
     refine or_ [2, 0, 0] ?_
     obtain ⟨l50, hm51, h52⟩ := bS h45
     refine oa 22 y47.2 Try.t3 (.int .i64 0) (fun γ w hs => ⟨y47.2, (hs.view 1 rfl)⟩) hm51 (fun y49 => ?_)
     refine oN 1 [(3, .v (.slice y49.1 l50.length y49.2))] [4, 0] ?_
     refine oe (bn (nt (qr (oN 3 [(4, vi (w64 (s23.1 + 1)))] [3, 0] ?_))))
     exact oe (ct h52 (y49.1, y49.2) [4, 3, 0] [0, 1] 0)
   refine qx (nx (nx (bh ?_)))
   have h53 := leafB hd32 h42 h28
   exact mp ((s23.2.1, t36.2.1, t36.2.2), (y24.1, y24.2)) h53 [3, 0] [1, 0] 0
 have h35 := (congrFun hk30 _).symm.trans h35p
 refine nt (qs (qr (oN 2 [(2, .v (.slice y34.2.1 y34.1.1.length y34.2.2))] [0] ?_)))
 refine oe (nt (qe (rt [.slice y34.2.1 y34.1.1.length y34.2.2] (fun γ w hs => ?_))))
 rw [← sI h35]
 exact hs.curPost hg y34.2 (is := [1, 0]) rfl

theorem c_spec_DrawPensions {W : World} {x0 : List U8} {a0_0 : Option Addr} {c0_0 : Nat} {r : (List Int)} (h : spec_DrawPensions x0 = some r) (hv0_0 : SlView W x0 a0_0 c0_0) :
    Gives Try.prog 16 #[.slice a0_0 x0.length c0_0] W (fun y : AC => .slice y.1 r.length y.2) (fun y => [SlRes 3 r y.1 y.2]) := by
 unfold spec_DrawPensions at h
 refine en Try.func16 Try.ntmps16 ?_
 refine qs (qr (oN 1 [] [0] ?_))
 refine oe (nt (qs (qr (oN 1 [(3, .v (.slice a0_0 x0.length c0_0))] [] ?_))))
 obtain ⟨t21, h22, h23⟩ := bS h
 refine JO_callN rfl (by kernel_rfl) (f := 31) (args := #[.slice a0_0 x0.length c0_0]) (by kernel_rfl) (fun γ w hs => (by have vv := c_spec_l01New (W := w) h22 (hv0_0.kept hs.kept); exact vv)) (fun y24 => [(4, .q y24.1 0), (3, .v (.slice a0_0 x0.length c0_0))]) (fun y24 => by kernel_rfl) (fun y24 => ?_)
 obtain ⟨t25, h26, h27⟩ := bS h23
 refine JO_callC rfl (by kernel_rfl) (f := 30) (args := fun γ => #[(SV.q y24.1 0).den []]) (fun γ => by kernel_rfl) (x0 := CurD.mk x0 t21.1 t21.2) (x1 := CurD.mk x0 t25.2.1 t25.2.2) (Rr := []) rfl (Seen.of hv0_0) (fun γ w hs => (by have vv := c_spec_l31Pensions (p0 := y24.1) (W := w) h26 (hv0_0.kept hs.kept); exact vv)) (fun (y28 : AC) => [(5, .v (.slice y28.1 t25.1.length y28.2)), (4, .q y24.1 0), (3, .v (.slice a0_0 x0.length c0_0))]) (fun y28 => by kernel_rfl) (fun y28 => ?_)
 refine oN 1 [(2, .v (.slice y28.1 t25.1.length y28.2))] [] ?_
 refine oe (nt (qe (rt [.slice y28.1 t25.1.length y28.2] (fun γ w hs => ?_))))
 rw [← sI h27]
 exact ⟨y28, rfl, hs.kept.toBelow, (hs.takeR (is := [0]) rfl).fresh⟩

theorem c_spec_DrawPlaces {W : World} {x0 : List U8} {a0_0 : Option Addr} {c0_0 : Nat} {r : (List Int)} (h : spec_DrawPlaces x0 = some r) (hv0_0 : SlView W x0 a0_0 c0_0) :
    Gives Try.prog 17 #[.slice a0_0 x0.length c0_0] W (fun y : AC => .slice y.1 r.length y.2) (fun y => [SlRes 3 r y.1 y.2]) := by
 unfold spec_DrawPlaces at h
 refine en Try.func17 Try.ntmps17 ?_
 refine qs (qr (oN 1 [] [0] ?_))
 refine oe (nt (qs (qr (oN 1 [(6, .v (.slice a0_0 x0.length c0_0))] [] ?_))))
 obtain ⟨t21, h22, h23⟩ := bS h
 refine JO_callN rfl (by kernel_rfl) (f := 31) (args := #[.slice a0_0 x0.length c0_0]) (by kernel_rfl) (fun γ w hs => (by have vv := c_spec_l01New (W := w) h22 (hv0_0.kept hs.kept); exact vv)) (fun y24 => [(7, .q y24.1 0), (6, .v (.slice a0_0 x0.length c0_0))]) (fun y24 => by kernel_rfl) (fun y24 => ?_)
 refine oN 1 [(3, .q y24.1 0)] [] ?_
 refine oe (nt (qs (qr (ob [] [CurRes 45 (CurD.mk x0 t21.1 t21.2) y24.1 a0_0 c0_0] 3 0 [] ([] : List Int) (own_flat (by kernel_rfl)) (fun y25 => ?_)))))
 refine oN 1 [(4, .v (.slice y25.1 ([] : List Int).length y25.2))] [3] ?_
 refine oe (nt (qs (qs (qr (oN 1 [(5, vi 0)] [4, 3] ?_)))))
 refine oe (nt ?_)
 obtain ⟨r30, hL31, h32⟩ := bS h23
 obtain ⟨k33, hk34, h32⟩ := brkS h32
 refine JC_cutP (τ := ((List Int)) × (AC)) (fun y => k33 y.1 = some r) (fun y38 => [(4, .v (.slice y38.2.1 y38.1.length y38.2.2))]) (fun y38 => []) (fun y38 => [SlRes 3 y38.1 y38.2.1 y38.2.2]) ?_ (fun y38 h39p => ?_)
 · refine qb (lp AC hL31 (fun s27 y28 => [(5, vi s27.1), (4, .v (.slice y28.1 s27.2.1.length y28.2)), (3, .q y24.1 0)]) (fun s27 y28 => []) (fun s27 y28 => [SlRes 3 s27.2.1 y28.1 y28.2, CurRes 45 (CurD.mk x0 s27.2.2.1 s27.2.2.2) y24.1 a0_0 c0_0]) (y25.1, y25.2) [5, 4, 3] [0, 0] 0 (fun s27 y28 t29 h35 hd36 => ?_))
   refine qs (qs (qr (oN 2 [(10, vb (decide (s27.1 < 12)))] [5, 4, 3] ?_)))
   refine oe (nt (cC h35 (fun h41 => ?_) (fun h42 => ?_)))
   · refine qk (nt (qs (qb (qr (oN 2 [(14, .q y24.1 0), (13, .v (.slice y28.1 s27.2.1.length y28.2))] [5, 3] ?_)))))
     refine or_ [1, 0] ?_
     obtain ⟨t43, h44, h45⟩ := bS h41
     refine JO_callC rfl (by kernel_rfl) (f := 32) (args := fun γ => #[(SV.q y24.1 0).den [], .int .i64 10000]) (fun γ => by kernel_rfl) (x0 := CurD.mk x0 s27.2.2.1 s27.2.2.2) (x1 := CurD.mk x0 t43.2.1 t43.2.2) (Rr := [SlRes 3 s27.2.1 y28.1 y28.2]) rfl (Seen.of hv0_0) (fun γ w hs => (by have vv := c_spec_l01Below (p0 := y24.1) (W := w) h44 (hv0_0.kept hs.kept); exact vv)) (fun (y46 : Unit) => [(15, vi t43.1), (14, .q y24.1 0), (13, .v (.slice y28.1 s27.2.1.length y28.2)), (5, vi s27.1), (3, .q y24.1 0)]) (fun y46 => by kernel_rfl) (fun y46 => ?_)
     refine ob [] [CurRes 45 (CurD.mk x0 t43.2.1 t43.2.2) y24.1 a0_0 c0_0, SlRes 3 s27.2.1 y28.1 y28.2] 3 1 [.int .i64 t43.1] ([t43.1] : List Int) (own_flat (by kernel_rfl)) (fun y47 => ?_)
     refine or_ [2, 0, 0] ?_
     obtain ⟨l50, hm51, h52⟩ := bS h45
     refine oa 22 y47.2 Try.t3 (.int .i64 0) (fun γ w hs => ⟨y47.2, (hs.view 1 rfl)⟩) hm51 (fun y49 => ?_)
     refine oN 1 [(4, .v (.slice y49.1 l50.length y49.2))] [5, 3] ?_
     refine oe (bn (nt (qr (oN 3 [(5, vi (w64 (s27.1 + 1)))] [4, 3] ?_))))
     exact oe (ct h52 (y49.1, y49.2) [5, 4, 3] [0, 1] 0)
   refine qx (nx (nx (bh ?_)))
   have h53 := leafB hd36 h42 h32
   exact mp (s27.2.1, (y28.1, y28.2)) h53 [4] [0] 0
 have h39 := (congrFun hk34 _).symm.trans h39p
 refine nt (qs (qr (oN 2 [(2, .v (.slice y38.2.1 y38.1.length y38.2.2))] [] ?_)))
 refine oe (nt (qe (rt [.slice y38.2.1 y38.1.length y38.2.2] (fun γ w hs => ?_))))
 rw [← sI h39]
 exact ⟨y38.2, rfl, hs.kept.toBelow, (hs.takeR (is := [0]) rfl).fresh⟩

theorem c_impl_within {W : World} {x0 : Int} {x1 : Int} {x2 : Int} {r : Bool} (h : impl_within x0 x1 x2 = some r)  :
    Gives0 Try.prog 25 #[.int .i64 x0, .int .i64 x1, .int .i64 x2] W (.bool r) := by
 unfold impl_within at h
 refine en Try.func25 Try.ntmps25 ?_
 refine qs (qr (oN 1 [] [0, 1, 2] ?_))
 refine oe (nt (qs ?_))
 obtain ⟨p21, hE22, h23⟩ := bS h
 refine JC_cut (τ := Unit) (fun _ => [(6, vb p21)]) (fun _ => []) (fun _ => []) ?_ (fun _ => ?_)
 · refine qr (oN 4 [(10, vb (decide (x1 ≤ x0)))] [0, 2] ?_)
   refine oS 10 hE22 (fun h25 => ?_) (fun h26 => ?_)
   · refine oN 5 [(6, vb (decide (x0 ≤ x2)))] [] ?_
     refine oe ?_
     obtain rfl := sI h25
     exact mt () [6] [] 0
   refine oN 5 [(6, vb false)] [] ?_
   refine oe ?_
   obtain rfl := sI h26
   exact mt () [6] [] 0
 refine nt (qe ?_)
 obtain rfl := sI h23
 exact re [.bool p21]

theorem c_impl_AdjustRate {W : World} {x0 : Int} {x1 : Int} {r : Int} (h : impl_AdjustRate x0 x1 = some r)  :
    Gives0 Try.prog 18 #[.int .i64 x0, .int .i64 x1] W (.int .i64 r) := by
 unfold impl_AdjustRate at h
 refine en Try.func18 Try.ntmps18 ?_
 refine qs (qr (oN 1 [] [0, 1] ?_))
 refine oe (nt (qs (qb (qs ?_))))
 obtain ⟨p21, hE22, h23⟩ := bS h
 refine JC_cut (τ := Unit) (fun _ => [(0, vi x0), (1, vi x1), (5, vb p21)]) (fun _ => []) (fun _ => []) ?_ (fun _ => ?_)
 · refine qr (oN 1 [(6, vi x0)] [0, 1] ?_)
   obtain ⟨t24, h25, h26⟩ := bS hE22
   refine k0 (fun γ w hs => c_impl_within h25) ?_
   refine oN 2 [(9, vb (!t24))] [0, 1] ?_
   refine oS 9 h26 (fun h29 => ?_) (fun h30 => ?_)
   · refine oN 9 [(5, vb true)] [0, 1] ?_
     refine oe ?_
     obtain rfl := sI h29
     exact mt () [0, 1, 5] [] 0
   refine oN 1 [(10, vi x1)] [9, 0, 1] ?_
   obtain ⟨t31, h32, h33⟩ := bS h30
   refine k0 (fun γ w hs => c_impl_within h32) ?_
   refine oN 3 [(14, vb (!t31))] [0, 1] ?_
   refine oS 14 h33 (fun h36 => ?_) (fun h37 => ?_)
   · refine oN 4 [(5, vb true)] [0, 1] ?_
     refine oe ?_
     obtain rfl := sI h36
     exact mt () [0, 1, 5] [] 0
   refine oN 4 [(5, vb (decide (x0 < 1000)))] [0, 1] ?_
   refine oe ?_
   obtain rfl := sI h37
   exact mt () [0, 1, 5] [] 0
 refine nt (cC h23 (fun h42 => ?_) (fun h43 => ?_))
 · refine qs (qr (oN 1 [(4, vi 0)] [] ?_))
   refine oe (nt (qe (br (nr ?_))))
   obtain rfl := sI h42
   exact re [.int .i64 0]
 refine qs (qr (oN 3 [(18, vb (decide (x0 ≥ 1100)))] [0, 1] ?_))
 refine oe (nt (cC h43 (fun h45 => ?_) (fun h46 => ?_)))
 · refine qs (qr (oN 2 [(4, vi x1)] [] ?_))
   refine oe (nt (qe (br (nr ?_))))
   obtain rfl := sI h45
   exact re [.int .i64 x1]
 refine qk (bn (nt (qs (qr (oN 6 [(4, vi (w64 (Int.tdiv (w64 (x1 * (w64 (x0 - 1000)))) 100)))] [] ?_)))))
 refine oe (nt (qe ?_))
 obtain rfl := sI h46
 exact re [.int .i64 (w64 (Int.tdiv (w64 (x1 * (w64 (x0 - 1000)))) 100))]

theorem c_impl_allWithin_1 {W : World} {x0 : Int} {gf_0 : Nat} {zf_0 : Int} {gf_1 : Nat} {zf_1 : Int} {r : Bool} (h : impl_allWithin_1 x0 zf_0 zf_1 = some r) (hcf_0 : CellsAt W (some ⟨gf_0, 0, none⟩) 0 [.int .i64 zf_0]) (hcf_1 : CellsAt W (some ⟨gf_1, 0, none⟩) 0 [.int .i64 zf_1]) :
    Gives0 Try.prog 39 #[.int .i64 x0, .pointer (some ⟨gf_0, 0, none⟩), .pointer (some ⟨gf_1, 0, none⟩)] W (.bool r) := by
 unfold impl_allWithin_1 at h
 refine enterD [vi x0, .q (some ⟨gf_0, 0, none⟩) (0), .q (some ⟨gf_1, 0, none⟩) (0)] (args := [.int .i64 x0, .pointer (some ⟨gf_0, 0, none⟩), .pointer (some ⟨gf_1, 0, none⟩)]) (by kernel_rfl) (by kernel_rfl) Try.func39 rfl Try.ntmps39 (by kernel_rfl) ?_
 refine qs (qr (oN 1 [] [0, 1, 2] ?_))
 refine oe (nt (qs (qr (oN 1 [(5, vi x0)] [1, 2] ?_))))
 refine ol 3 0 (.int .i64 zf_0) (fun γ w hs => ⟨by simp, hcf_0.kept hs.kept⟩) ?_
 refine ol 3 0 (.int .i64 zf_1) (fun γ w hs => ⟨by simp, hcf_1.kept hs.kept⟩) ?_
 obtain ⟨t21, h22, h23⟩ := bS h
 refine k0 (fun γ w hs => c_impl_within h22) ?_
 refine oN 2 [(4, vb (!t21))] [] ?_
 refine oe (nt (qe ?_))
 obtain rfl := sI h23
 exact re [.bool (!t21)]

theorem c_slices_IndexFunc_int__impl_allWithin_1 {W : World} {x0 : List Int} {a0_0 : Option Addr} {c0_0 : Nat} {g1_0 : Nat} {z1_0 : Int} {g1_1 : Nat} {z1_1 : Int} {r : Int} (h : slices_IndexFunc_int__impl_allWithin_1 x0 z1_0 z1_1 = some r) (hv0_0 : SlView W x0 a0_0 c0_0) (hc1_0 : CellsAt W (some ⟨g1_0, 0, none⟩) 0 [.int .i64 z1_0]) (hc1_1 : CellsAt W (some ⟨g1_1, 0, none⟩) 0 [.int .i64 z1_1]) :
    Gives0 Try.prog 42 #[.slice a0_0 x0.length c0_0, .func (.func 39) #[] #[.pointer (some ⟨g1_0, 0, none⟩), .pointer (some ⟨g1_1, 0, none⟩)]] W (.int .i64 r) := by
 unfold slices_IndexFunc_int__impl_allWithin_1 at h
 refine en Try.func42 Try.ntmps42 ?_
 refine qs (qr (oN 1 [] [0, 1] ?_))
 refine oe (nt (qs (qs (qr (oN 3 [(8, vi 0), (7, vi (x0.length : Int))] [0, 1] ?_)))))
 refine oe (nt ?_)
 obtain ⟨r24, hL25, h26⟩ := bS h
 obtain ⟨k27, hk28, h26⟩ := brkS h26
 refine JC_cutP (τ := (Unit) × (Unit)) (fun y => k27 y.1 = some r) (fun y32 => []) (fun y32 => []) (fun y32 => []) ?_ (fun y32 h33p => ?_)
 · refine qb (lp Unit hL25 (fun s21 y22 => [(8, vi s21), (7, vi (x0.length : Int)), (0, .v (.slice a0_0 x0.length c0_0)), (1, .v (.func (.func 39) #[] #[.pointer (some ⟨g1_0, 0, none⟩), .pointer (some ⟨g1_1, 0, none⟩)]))]) (fun s21 y22 => []) (fun s21 y22 => []) () [8, 7, 0, 1] [] 0 (fun s21 y22 t23 h29 hd30 => ?_))
   refine qs (qr (oN 1 [(9, vb (decide (s21 < (x0.length : Int))))] [8, 7, 0, 1] ?_))
   refine oe (nt (qs (cC h29 (fun h35 => ?_) (fun h36 => ?_))))
   · refine qk (nt (qs (qb (qs (qr (oN 2 [(5, vi s21)] [8, 7, 0, 1] ?_))))))
     refine oe (nt (qs (qr (oN 3 [(13, vi s21), (12, .v (.slice a0_0 x0.length c0_0)), (11, .v (.func (.func 39) #[] #[.pointer (some ⟨g1_0, 0, none⟩), .pointer (some ⟨g1_1, 0, none⟩)]))] [5, 8, 7, 0, 1] ?_))))
     obtain ⟨x37, hx38, h39⟩ := bS h35
     refine oi 1 (fun γ w hs => (hv0_0.kept hs.kept)) hx38 ?_
     refine ol 3 0 (.int .i64 x37) (fun γ w hs => (hv0_0.kept hs.kept).flatq hx38) ?_
     obtain ⟨t40, h41, h42⟩ := bS h39
     refine k0 (fun γ w hs => c_impl_allWithin_1 h41 (hc1_0.kept hs.kept) (hc1_1.kept hs.kept)) ?_
     refine oe (nt (cC h42 (fun h45 => ?_) (fun h46 => ?_)))
     · refine qs (qr (oN 2 [(4, vi s21)] [] ?_))
       refine oe (nt (qe (br (nr (nr ?_)))))
       have h47 := leafR hd30 h45 h26
       refine br (nr (nr ?_))
       obtain rfl := sI h47
       exact re [.int .i64 s21]
     refine qk (bn (nt (qr (oN 2 [(8, vi (w64 (s21 + 1)))] [7, 0, 1] ?_))))
     exact oe (ct h46 () [8, 7, 0, 1] [] 0)
   refine qx (nx (nx (bh ?_)))
   have h48 := leafB hd30 h36 h26
   exact mp ((), ()) h48 [] [] 0
 have h33 := (congrFun hk28 _).symm.trans h33p
 refine nt (qs (qr (oN 1 [(4, vi (-1))] [] ?_)))
 refine oe (nt (qe ?_))
 obtain rfl := sI h33
 exact re [.int .i64 (-1)]

theorem c_slices_ContainsFunc_int__impl_allWithin_1 {W : World} {x0 : List Int} {a0_0 : Option Addr} {c0_0 : Nat} {g1_0 : Nat} {z1_0 : Int} {g1_1 : Nat} {z1_1 : Int} {r : Bool} (h : slices_ContainsFunc_int__impl_allWithin_1 x0 z1_0 z1_1 = some r) (hv0_0 : SlView W x0 a0_0 c0_0) (hc1_0 : CellsAt W (some ⟨g1_0, 0, none⟩) 0 [.int .i64 z1_0]) (hc1_1 : CellsAt W (some ⟨g1_1, 0, none⟩) 0 [.int .i64 z1_1]) :
    Gives0 Try.prog 38 #[.slice a0_0 x0.length c0_0, .func (.func 39) #[] #[.pointer (some ⟨g1_0, 0, none⟩), .pointer (some ⟨g1_1, 0, none⟩)]] W (.bool r) := by
 unfold slices_ContainsFunc_int__impl_allWithin_1 at h
 refine en Try.func38 Try.ntmps38 ?_
 refine qs (qr (oN 1 [] [0, 1] ?_))
 refine oe (nt (qs (qr (oN 2 [(6, .v (.func (.func 39) #[] #[.pointer (some ⟨g1_0, 0, none⟩), .pointer (some ⟨g1_1, 0, none⟩)])), (5, .v (.slice a0_0 x0.length c0_0))] [] ?_))))
 obtain ⟨t21, h22, h23⟩ := bS h
 refine k0 (fun γ w hs => c_slices_IndexFunc_int__impl_allWithin_1 h22 (hv0_0.kept hs.kept) (hc1_0.kept hs.kept) (hc1_1.kept hs.kept)) ?_
 refine oN 2 [(4, vb (decide (t21 ≥ 0)))] [] ?_
 refine oe (nt (qe ?_))
 obtain rfl := sI h23
 exact re [.bool (decide (t21 ≥ 0))]

theorem c_impl_allWithin {W : World} {x0 : List Int} {a0_0 : Option Addr} {c0_0 : Nat} {x1 : Int} {x2 : Int} {r : Bool} (h : impl_allWithin x0 x1 x2 = some r) (hv0_0 : SlView W x0 a0_0 c0_0) :
    Gives0 Try.prog 33 #[.slice a0_0 x0.length c0_0, .int .i64 x1, .int .i64 x2] W (.bool r) := by
 unfold impl_allWithin at h
 refine en Try.func33 Try.ntmps33 ?_
 refine qs (qr (oB 3 [(5, .p 1 0), (4, .p 0 0)] [0] [(3, [.int .i64 x1]), (3, [.int .i64 x2])] ?_))
 refine oe (nt (qs (qr (oN 1 [(7, .v (.slice a0_0 x0.length c0_0))] [5, 4] ?_))))
 refine JO_mkfunc rfl (by kernel_rfl) (x := .f 39 [(0, 0), (1, 0)]) (by kernel_rfl) rfl ?_
 obtain ⟨t21, h22, h23⟩ := bS h
 refine JO_callD0 rfl (by kernel_rfl) (f := 38) (args := fun γ => #[.slice a0_0 x0.length c0_0, .func (.func 39) #[] #[.pointer (some ⟨γ.getD 0 0, 0, none⟩), .pointer (some ⟨γ.getD 1 0, 0, none⟩)]]) (fun γ => by kernel_rfl) (x := .bool t21) (fun γ w hs => (by have vv := c_slices_ContainsFunc_int__impl_allWithin_1 (W := w) h22 (hv0_0.kept hs.kept) (hs.boxCells (k := 0) (e := 3) (by kernel_rfl)) (hs.boxCells (k := 1) (e := 3) (by kernel_rfl)); exact vv)) rfl ?_
 refine oN 2 [(6, vb (!t21))] [] ?_
 refine oe (nt (qe ?_))
 obtain rfl := sI h23
 exact re [.bool (!t21)]

theorem c_impl_arePensions {W : World} {x0 : List Int} {a0_0 : Option Addr} {c0_0 : Nat} {r : Bool} (h : impl_arePensions x0 = some r) (hv0_0 : SlView W x0 a0_0 c0_0) :
    Gives0 Try.prog 24 #[.slice a0_0 x0.length c0_0] W (.bool r) := by
 unfold impl_arePensions at h
 refine en Try.func24 Try.ntmps24 ?_
 refine qs (qr (oN 1 [] [0] ?_))
 refine oe (nt (qs ?_))
 obtain ⟨p21, hE22, h23⟩ := bS h
 refine JC_cut (τ := Unit) (fun _ => [(2, vb p21)]) (fun _ => []) (fun _ => []) ?_ (fun _ => ?_)
 · refine qr (oN 4 [(6, vb (decide ((x0.length : Int) ≤ 40)))] [0] ?_)
   refine oS 6 hE22 (fun h25 => ?_) (fun h26 => ?_)
   · refine oN 1 [(7, .v (.slice a0_0 x0.length c0_0))] [6] ?_
     obtain ⟨t27, h28, h29⟩ := bS h25
     refine k0 (fun γ w hs => c_impl_allWithin h28 (hv0_0.kept hs.kept)) ?_
     refine oN 2 [(2, vb t27)] [] ?_
     refine oe ?_
     obtain rfl := sI h29
     exact mt () [2] [] 0
   refine oN 4 [(2, vb false)] [] ?_
   refine oe ?_
   obtain rfl := sI h26
   exact mt () [2] [] 0
 refine nt (qe ?_)
 obtain rfl := sI h23
 exact re [.bool p21]

theorem c_impl_RaiseAll {W : World} {x0 : List Int} {a0_0 : Option Addr} {c0_0 : Nat} {x1 : Int} {r : (List Int)} (h : impl_RaiseAll x0 x1 = some r) (hv0_0 : SlView W x0 a0_0 c0_0) :
    Gives Try.prog 20 #[.slice a0_0 x0.length c0_0, .int .i64 x1] W (fun y : AC => .slice y.1 r.length y.2) (fun y => [SlRes 3 r y.1 y.2]) := by
 unfold impl_RaiseAll at h
 refine en Try.func20 Try.ntmps20 ?_
 refine qs (qr (oN 1 [] [0, 1] ?_))
 refine oe (nt (qs (qs ?_)))
 obtain ⟨p21, hE22, h23⟩ := bS h
 refine JC_cut (τ := Unit) (fun _ => [(0, .v (.slice a0_0 x0.length c0_0)), (1, vi x1), (15, vb p21)]) (fun _ => []) (fun _ => []) ?_ (fun _ => ?_)
 · refine qr (oN 1 [(8, .v (.slice a0_0 x0.length c0_0))] [0, 1] ?_)
   obtain ⟨t24, h25, h26⟩ := bS hE22
   refine k0 (fun γ w hs => c_impl_arePensions h25 (hv0_0.kept hs.kept)) ?_
   refine oN 2 [(11, vb (!t24))] [0, 1] ?_
   refine oS 11 h26 (fun h29 => ?_) (fun h30 => ?_)
   · refine oN 4 [(15, vb true)] [0, 1] ?_
     refine oe ?_
     obtain rfl := sI h29
     exact mt () [0, 1, 15] [] 0
   refine oN 1 [(12, vi x1)] [11, 0, 1] ?_
   obtain ⟨t31, h32, h33⟩ := bS h30
   refine k0 (fun γ w hs => c_impl_within h32) ?_
   refine oN 2 [(15, vb (!t31))] [0, 1] ?_
   refine oe ?_
   obtain rfl := sI h33
   exact mt () [0, 1, 15] [] 0
 refine nt (cC h23 (fun h36 => ?_) (fun h37 => ?_))
 · refine qs (qr (oN 1 [(4, .v (.slice none 0 0))] [] ?_))
   refine oe (nt (qe (nr (JE_addnil 3 (List.nil (α := Int)) rfl ?_))))
   refine rt [.slice none 0 0] (fun γ w hs => ?_)
   rw [← sI h36]
   exact ⟨(none, 0), rfl, hs.kept.toBelow, (hs.takeR (is := [0]) rfl).fresh⟩
 refine qk (nt (qs (qr (ob [] [] 3 0 [] ([] : List Int) (own_flat (by kernel_rfl)) (fun y38 => ?_)))))
 refine oN 1 [(5, .v (.slice y38.1 ([] : List Int).length y38.2))] [0, 1] ?_
 refine oe (nt (qs (qs (qr (oN 3 [(19, vi 0), (18, vi (x0.length : Int)), (17, .v (.slice a0_0 x0.length c0_0))] [5, 1] ?_)))))
 refine oe (nt ?_)
 obtain ⟨r43, hL44, h45⟩ := bS h37
 obtain ⟨k46, hk47, h45⟩ := brkS h45
 refine JC_cutP (τ := ((List Int)) × (AC)) (fun y => k46 y.1 = some r) (fun y51 => [(5, .v (.slice y51.2.1 y51.1.length y51.2.2))]) (fun y51 => []) (fun y51 => [SlRes 3 y51.1 y51.2.1 y51.2.2]) ?_ (fun y51 h52p => ?_)
 · refine qb (lp AC hL44 (fun s40 y41 => [(19, vi s40.1), (18, vi (x0.length : Int)), (17, .v (.slice a0_0 x0.length c0_0)), (5, .v (.slice y41.1 s40.2.length y41.2)), (1, vi x1)]) (fun s40 y41 => []) (fun s40 y41 => [SlRes 3 s40.2 y41.1 y41.2]) (y38.1, y38.2) [19, 18, 17, 5, 1] [0] 0 (fun s40 y41 t42 h48 hd49 => ?_))
   refine qs (qr (oN 1 [(20, vb (decide (s40.1 < (x0.length : Int))))] [19, 18, 17, 5, 1] ?_))
   refine oe (nt (qs (cC h48 (fun h54 => ?_) (fun h55 => ?_))))
   · refine qk (nt (qs (qb (qs (qr ?_)))))
     obtain ⟨x56, hx57, h58⟩ := bS h54
     refine oi 1 (fun γ w hs => (hv0_0.kept hs.kept)) hx57 ?_
     refine ol 3 0 (.int .i64 x56) (fun γ w hs => (hv0_0.kept hs.kept).flatq hx57) ?_
     refine oN 1 [(7, vi x56)] [19, 18, 17, 5, 1] ?_
     refine oe (nt (qr (oN 7 [(29, vi (w64 (x56 + (w64 (Int.tdiv (w64 (x56 * x1)) 1000))))), (23, .v (.slice y41.1 s40.2.length y41.2))] [19, 18, 17, 1] ?_)))
     refine ob [] [SlRes 3 s40.2 y41.1 y41.2] 3 1 [.int .i64 (w64 (x56 + (w64 (Int.tdiv (w64 (x56 * x1)) 1000))))] ([w64 (x56 + (w64 (Int.tdiv (w64 (x56 * x1)) 1000)))] : List Int) (own_flat (by kernel_rfl)) (fun y59 => ?_)
     refine or_ [1, 0] ?_
     obtain ⟨l62, hm63, h64⟩ := bS h58
     refine oa 22 y59.2 Try.t3 (.int .i64 0) (fun γ w hs => ⟨y59.2, (hs.view 1 rfl)⟩) hm63 (fun y61 => ?_)
     refine oN 1 [(5, .v (.slice y61.1 l62.length y61.2))] [19, 18, 17, 1] ?_
     refine oe (bn (nt (qr (oN 2 [(19, vi (w64 (s40.1 + 1)))] [5, 18, 17, 1] ?_))))
     exact oe (ct h64 (y61.1, y61.2) [19, 18, 17, 5, 1] [0] 0)
   refine qx (nx (nx (bh ?_)))
   have h65 := leafB hd49 h55 h45
   exact mp (s40.2, (y41.1, y41.2)) h65 [5] [0] 0
 have h52 := (congrFun hk47 _).symm.trans h52p
 refine nt (qs (qr (oN 2 [(4, .v (.slice y51.2.1 y51.1.length y51.2.2))] [] ?_)))
 refine oe (nt (qe (rt [.slice y51.2.1 y51.1.length y51.2.2] (fun γ w hs => ?_))))
 rw [← sI h52]
 exact ⟨y51.2, rfl, hs.kept.toBelow, (hs.takeR (is := [0]) rfl).fresh⟩

theorem c_laws_sameInts {W : World} {x0 : List Int} {a0_0 : Option Addr} {c0_0 : Nat} {x1 : List Int} {a1_0 : Option Addr} {c1_0 : Nat} {r : Bool} (h : laws_sameInts x0 x1 = some r) (hv0_0 : SlView W x0 a0_0 c0_0) (hv1_0 : SlView W x1 a1_0 c1_0) :
    Gives0 Try.prog 19 #[.slice a0_0 x0.length c0_0, .slice a1_0 x1.length c1_0] W (.bool r) := by
 unfold laws_sameInts at h
 refine en Try.func19 Try.ntmps19 ?_
 refine qs (qr (oN 1 [] [0, 1] ?_))
 refine oe (nt (qs (qs (qr (oN 5 [(10, vb ((x0.length : Int) != (x1.length : Int)))] [0, 1] ?_)))))
 refine oe (nt (cC h (fun h22 => ?_) (fun h23 => ?_)))
 · refine qs (qr (oN 1 [(4, vb false)] [] ?_))
   refine oe (nt (qe (nr ?_)))
   obtain rfl := sI h22
   exact re [.bool false]
 refine qk (nt (qs (qs (qr (oN 1 [(5, vi 0)] [0, 1] ?_)))))
 refine oe (nt ?_)
 obtain ⟨r27, hL28, h29⟩ := bS h23
 obtain ⟨k30, hk31, h29⟩ := brkS h29
 refine JC_cutP (τ := (Unit) × (Unit)) (fun y => k30 y.1 = some r) (fun y35 => []) (fun y35 => []) (fun y35 => []) ?_ (fun y35 h36p => ?_)
 · refine qb (lp Unit hL28 (fun s24 y25 => [(5, vi s24), (0, .v (.slice a0_0 x0.length c0_0)), (1, .v (.slice a1_0 x1.length c1_0))]) (fun s24 y25 => []) (fun s24 y25 => []) () [5, 0, 1] [] 0 (fun s24 y25 t26 h32 hd33 => ?_))
   refine qs (qs (qr (oN 4 [(14, vb (decide (s24 < (x0.length : Int))))] [5, 0, 1] ?_)))
   refine oe (nt (cC h32 (fun h38 => ?_) (fun h39 => ?_)))
   · refine qk (nt (qs (qb (qs (JC_quiet (by kernel_rfl) (by kernel_rfl) ?_)))))
     refine qN 2 [(18, vi s24), (17, .v (.slice a0_0 x0.length c0_0))] [5, 0, 1] ?_
     obtain ⟨x40, hx41, h42⟩ := bS h38
     refine qi 1 (fun γ w hs => (hv0_0.kept hs.kept)) hx41 ?_
     refine ql 3 0 (.int .i64 x40) (fun γ w hs => (hv0_0.kept hs.kept).flatq hx41) ?_
     refine qN 2 [(22, vi s24), (21, .v (.slice a1_0 x1.length c1_0))] [20, 5, 0, 1] ?_
     obtain ⟨x43, hx44, h45⟩ := bS h42
     refine qi 1 (fun γ w hs => (hv1_0.kept hs.kept)) hx44 ?_
     refine ql 3 0 (.int .i64 x43) (fun γ w hs => (hv1_0.kept hs.kept).flatq hx44) ?_
     refine qN 1 [(25, vb (x40 != x43))] [5, 0, 1] ?_
     refine qz (nt (cC h45 (fun h47 => ?_) (fun h48 => ?_)))
     · refine qs (qr (oN 1 [(4, vb false)] [] ?_))
       refine oe (nt (qe (br (nr (nr ?_)))))
       have h49 := leafR hd33 h47 h29
       refine br (nr (nr ?_))
       obtain rfl := sI h49
       exact re [.bool false]
     refine qk (bn (nt (qr (oN 3 [(5, vi (w64 (s24 + 1)))] [0, 1] ?_))))
     exact oe (ct h48 () [5, 0, 1] [] 0)
   refine qx (nx (nx (bh ?_)))
   have h50 := leafB hd33 h39 h29
   exact mp ((), ()) h50 [] [] 0
 have h36 := (congrFun hk31 _).symm.trans h36p
 refine nt (qs (qr (oN 1 [(4, vb true)] [] ?_)))
 refine oe (nt (qe ?_))
 obtain rfl := sI h36
 exact re [.bool true]

theorem c_slices_Clone_int {W : World} {x0 : List Int} {a0_0 : Option Addr} {c0_0 : Nat} {r : (List Int)} (h : slices_Clone_int x0 = some r) (hv0_0 : SlView W x0 a0_0 c0_0) :
    Gives Try.prog 26 #[.slice a0_0 x0.length c0_0] W (fun y : AC => .slice y.1 r.length y.2) (fun y => [SlRes 3 r y.1 y.2]) := by
 unfold slices_Clone_int at h
 refine en Try.func26 Try.ntmps26 ?_
 refine qs (qr (oN 1 [] [0] ?_))
 refine oe (nt (qs (qs (qr (oN 1 [(3, .v (.slice a0_0 x0.length c0_0))] [0] ?_)))))
 rcases a0_0 with _ | d21
 · obtain rfl := hv0_0.nil rfl
   obtain rfl := hv0_0.nilE
   have h22 : (some ([] : List Int)) = some r := h
   refine oN 1 [(4, vb true)] [0] ?_
   refine oe (nt (JC_cond true (by kernel_rfl) (fun _ => ?_) (fun hb => by cases hb)))
   refine qs (qr (oN 1 [(2, .v (.slice none 0 0))] [] ?_))
   refine oe (nt (qe (nr (JE_addnil 3 (List.nil (α := Int)) rfl ?_))))
   refine rt [.slice none 0 0] (fun γ w hs => ?_)
   rw [← sI h22]
   exact ⟨(none, 0), rfl, hs.kept.toBelow, (hs.takeR (is := [0]) rfl).fresh⟩
 refine oN 1 [(4, vb false)] [0] ?_
 refine oe (nt (JC_cond false (by kernel_rfl) (fun hb => by cases hb) (fun _ => ?_)))
 refine qk (nt (qs (qr (ob [] [] 3 0 [] ([] : List Int) (own_flat (by kernel_rfl)) (fun y24 => ?_)))))
 refine oN 1 [(6, .v (.slice (some d21) x0.length c0_0))] [5] ?_
 obtain ⟨l27, hm28, h29⟩ := bS h
 refine oa 22 c0_0 Try.t3 (.int .i64 0) (fun γ w hs => ⟨c0_0, (hv0_0.kept hs.kept)⟩) hm28 (fun y26 => ?_)
 refine oN 1 [(2, .v (.slice y26.1 l27.length y26.2))] [] ?_
 refine oe (nt (qe (rt [.slice y26.1 l27.length y26.2] (fun γ w hs => ?_))))
 rw [← sI h29]
 exact ⟨y26, rfl, hs.kept.toBelow, (hs.takeR (is := [0]) rfl).fresh⟩

theorem c_impl_total {W : World} {x0 : List Int} {a0_0 : Option Addr} {c0_0 : Nat} {r : Int} (h : impl_total x0 = some r) (hv0_0 : SlView W x0 a0_0 c0_0) :
    Gives0 Try.prog 28 #[.slice a0_0 x0.length c0_0] W (.int .i64 r) := by
 unfold impl_total at h
 refine en Try.func28 Try.ntmps28 ?_
 refine qs (qr (oN 1 [] [0] ?_))
 refine oe (nt (qs (qr (oN 1 [(3, vi 0)] [0] ?_))))
 refine oe (nt (qs (qs (qr (oN 3 [(8, vi 0), (7, vi (x0.length : Int)), (6, .v (.slice a0_0 x0.length c0_0))] [3] ?_)))))
 refine oe (nt ?_)
 obtain ⟨r24, hL25, h26⟩ := bS h
 obtain ⟨k27, hk28, h26⟩ := brkS h26
 refine JC_cutP (τ := (Int) × (Unit)) (fun y => k27 y.1 = some r) (fun y32 => [(3, vi y32.1)]) (fun y32 => []) (fun y32 => []) ?_ (fun y32 h33p => ?_)
 · refine qb (lp Unit hL25 (fun s21 y22 => [(8, vi s21.1), (7, vi (x0.length : Int)), (6, .v (.slice a0_0 x0.length c0_0)), (3, vi s21.2)]) (fun s21 y22 => []) (fun s21 y22 => []) () [8, 7, 6, 3] [] 0 (fun s21 y22 t23 h29 hd30 => ?_))
   refine qs (qr (oN 1 [(9, vb (decide (s21.1 < (x0.length : Int))))] [8, 7, 6, 3] ?_))
   refine oe (nt (qs (cC h29 (fun h35 => ?_) (fun h36 => ?_))))
   · refine qk (nt (qs (qb (qs (qr ?_)))))
     obtain ⟨x37, hx38, h39⟩ := bS h35
     refine oi 1 (fun γ w hs => (hv0_0.kept hs.kept)) hx38 ?_
     refine ol 3 0 (.int .i64 x37) (fun γ w hs => (hv0_0.kept hs.kept).flatq hx38) ?_
     refine oN 1 [(5, vi x37)] [8, 7, 6, 3] ?_
     refine oe (nt (qr (oN 4 [(3, vi (w64 (s21.2 + x37)))] [8, 7, 6] ?_)))
     refine oe (bn (nt (qr (oN 2 [(8, vi (w64 (s21.1 + 1)))] [3, 7, 6] ?_))))
     exact oe (ct h39 () [8, 7, 6, 3] [] 0)
   refine qx (nx (nx (bh ?_)))
   have h40 := leafB hd30 h36 h26
   exact mp (s21.2, ()) h40 [3] [] 0
 have h33 := (congrFun hk28 _).symm.trans h33p
 refine nt (qs (qr (oN 2 [(2, vi y32.1)] [] ?_)))
 refine oe (nt (qe ?_))
 obtain rfl := sI h33
 exact re [.int .i64 y32.1]

theorem c_cmp_isNaN_int {W : World} {x0 : Int} {r : Bool} (h : cmp_isNaN_int x0 = some r)  :
    Gives0 Try.prog 41 #[.int .i64 x0] W (.bool r) := by
 unfold cmp_isNaN_int at h
 refine en Try.func41 Try.ntmps41 ?_
 refine qs (qr (oN 1 [] [0] ?_))
 refine oe (nt (qs (qr (oN 4 [(2, vb (x0 != x0))] [] ?_))))
 refine oe (nt (qe ?_))
 obtain rfl := sI h
 exact re [.bool (x0 != x0)]

theorem c_cmp_Compare_int {W : World} {x0 : Int} {x1 : Int} {r : Int} (h : cmp_Compare_int x0 x1 = some r)  :
    Gives0 Try.prog 36 #[.int .i64 x0, .int .i64 x1] W (.int .i64 r) := by
 unfold cmp_Compare_int at h
 refine en Try.func36 Try.ntmps36 ?_
 refine qs (qr (oN 1 [] [0, 1] ?_))
 refine oe (nt (qs (qr (oN 1 [(7, vi x0)] [0, 1] ?_))))
 obtain ⟨t21, h22, h23⟩ := bS h
 refine k0 (fun γ w hs => c_cmp_isNaN_int h22) ?_
 refine oN 1 [(5, vb t21)] [0, 1] ?_
 refine oe (nt (qs (qr (oN 1 [(9, vi x1)] [5, 0, 1] ?_))))
 obtain ⟨t25, h26, h27⟩ := bS h23
 refine k0 (fun γ w hs => c_cmp_isNaN_int h26) ?_
 refine oN 1 [(6, vb t25)] [5, 0, 1] ?_
 refine oe (nt (qs (qs (qr (oN 1 [(11, vb t21)] [6, 0, 1] ?_)))))
 refine oe (nt (cC h27 (fun h33 => ?_) (fun h34 => ?_)))
 · refine qs (qs (qr (oN 1 [(12, vb t25)] [] ?_)))
   refine oe (nt (cC h33 (fun h36 => ?_) (fun h37 => ?_)))
   · refine qs (qr (oN 1 [(4, vi 0)] [] ?_))
     refine oe (nt (qe (nr (nr ?_))))
     obtain rfl := sI h36
     exact re [.int .i64 0]
   refine qk (nt (qs (qr (oN 1 [(4, vi (-1))] [] ?_))))
   refine oe (nt (qe (nr ?_)))
   obtain rfl := sI h37
   exact re [.int .i64 (-1)]
 refine qk (nt (qs (qs (qr (oN 1 [(13, vb t25)] [0, 1] ?_)))))
 refine oe (nt (cC h34 (fun h39 => ?_) (fun h40 => ?_)))
 · refine qs (qr (oN 1 [(4, vi 1)] [] ?_))
   refine oe (nt (qe (nr ?_)))
   obtain rfl := sI h39
   exact re [.int .i64 1]
 refine qk (nt (qs (qs (qr (oN 3 [(16, vb (decide (x0 < x1)))] [0, 1] ?_)))))
 refine oe (nt (cC h40 (fun h42 => ?_) (fun h43 => ?_)))
 · refine qs (qr (oN 1 [(4, vi (-1))] [] ?_))
   refine oe (nt (qe (nr ?_)))
   obtain rfl := sI h42
   exact re [.int .i64 (-1)]
 refine qk (nt (qs (qs (qr (oN 3 [(19, vb (decide (x0 > x1)))] [] ?_)))))
 refine oe (nt (cC h43 (fun h45 => ?_) (fun h46 => ?_)))
 · refine qs (qr (oN 1 [(4, vi 1)] [] ?_))
   refine oe (nt (qe (nr ?_)))
   obtain rfl := sI h45
   exact re [.int .i64 1]
 refine qk (nt (qs (qr (oN 1 [(4, vi 0)] [] ?_))))
 refine oe (nt (qe ?_))
 obtain rfl := sI h46
 exact re [.int .i64 0]

theorem c_impl_Allocate_1 {W : World} {x0 : Int} {x1 : Int} {gf_0 : Nat} {zf_0 : Int} {gf_1 : Nat} {zf_1 : List Int} {af_1_0 : Option Addr} {cf_1_0 : Nat} {gf_2 : Nat} {zf_2 : Int} {r : Int} (h : impl_Allocate_1 x0 x1 zf_0 zf_1 zf_2 = some r) (hcf_0 : CellsAt W (some ⟨gf_0, 0, none⟩) 0 [.int .i64 zf_0]) (hvf_1_0 : SlView W zf_1 af_1_0 cf_1_0) (hcf_1 : CellsAt W (some ⟨gf_1, 0, none⟩) 0 [.slice af_1_0 zf_1.length cf_1_0]) (hcf_2 : CellsAt W (some ⟨gf_2, 0, none⟩) 0 [.int .i64 zf_2]) :
    Gives0 Try.prog 35 #[.int .i64 x0, .int .i64 x1, .pointer (some ⟨gf_0, 0, none⟩), .pointer (some ⟨gf_1, 0, none⟩), .pointer (some ⟨gf_2, 0, none⟩)] W (.int .i64 r) := by
 unfold impl_Allocate_1 at h
 refine enterD [vi x0, vi x1, .q (some ⟨gf_0, 0, none⟩) (0), .q (some ⟨gf_1, 0, none⟩) (0), .q (some ⟨gf_2, 0, none⟩) (0)] (args := [.int .i64 x0, .int .i64 x1, .pointer (some ⟨gf_0, 0, none⟩), .pointer (some ⟨gf_1, 0, none⟩), .pointer (some ⟨gf_2, 0, none⟩)]) (by kernel_rfl) (by kernel_rfl) Try.func35 rfl Try.ntmps35 (by kernel_rfl) ?_
 refine qs (qr (oN 1 [] [0, 1, 2, 3, 4] ?_))
 refine oe (nt (qs (JC_quiet (by kernel_rfl) (by kernel_rfl) ?_)))
 refine ql 3 0 (.int .i64 zf_0) (fun γ w hs => ⟨by simp, hcf_0.kept hs.kept⟩) ?_
 refine ql 22 0 (.slice af_1_0 zf_1.length cf_1_0) (fun γ w hs => ⟨by simp, hcf_1.kept hs.kept⟩) ?_
 refine qN 1 [(10, vi x1)] [9, 8, 0, 2, 3, 4] ?_
 obtain ⟨x21, hx22, h23⟩ := bS h
 refine qi 1 (fun γ w hs => (hvf_1_0.kept hs.kept)) hx22 ?_
 refine ql 3 0 (.int .i64 x21) (fun γ w hs => (hvf_1_0.kept hs.kept).flatq hx22) ?_
 refine qN 1 [(13, vi (w64 (zf_0 * x21)))] [0, 2, 3, 4] ?_
 refine ql 3 0 (.int .i64 zf_2) (fun γ w hs => ⟨by simp, hcf_2.kept hs.kept⟩) ?_
 obtain ⟨u26, hz25, h24⟩ := bS h23
 refine JQ_div rfl (by kernel_rfl) (op := .rem) (k := .i64) (x := (w64 (zf_0 * x21))) (y := zf_2) (by kernel_rfl) (nz_some hz25) rfl ?_
 refine ql 3 0 (.int .i64 zf_0) (fun γ w hs => ⟨by simp, hcf_0.kept hs.kept⟩) ?_
 refine ql 22 0 (.slice af_1_0 zf_1.length cf_1_0) (fun γ w hs => ⟨by simp, hcf_1.kept hs.kept⟩) ?_
 refine qN 1 [(18, vi x0)] [17, 16, 15, 4] ?_
 obtain ⟨x27, hx28, h29⟩ := bS h24
 refine qi 1 (fun γ w hs => (hvf_1_0.kept hs.kept)) hx28 ?_
 refine ql 3 0 (.int .i64 x27) (fun γ w hs => (hvf_1_0.kept hs.kept).flatq hx28) ?_
 refine qN 1 [(21, vi (w64 (zf_0 * x27)))] [15, 4] ?_
 refine ql 3 0 (.int .i64 zf_2) (fun γ w hs => ⟨by simp, hcf_2.kept hs.kept⟩) ?_
 obtain ⟨u32, hz31, h30⟩ := bS h29
 refine JQ_div rfl (by kernel_rfl) (op := .rem) (k := .i64) (x := (w64 (zf_0 * x27))) (y := zf_2) (by kernel_rfl) (nz_some hz31) rfl ?_
 obtain ⟨t33, h34, h35⟩ := bS h30
 refine q0 (fun γ w hs => c_cmp_Compare_int h34) ?_
 refine qN 1 [(7, vi t33)] [] ?_
 refine qz (nt (qe ?_))
 obtain rfl := sI h35
 exact re [.int .i64 t33]

theorem c_slices_insertionSortCmpFunc_int__impl_Allocate_1 {W : World} {x0 : List Int} {a0_0 : Option Addr} {c0_0 : Nat} {e0_0 : TypeId} {x1 : Int} {x2 : Int} {g3_0 : Nat} {z3_0 : Int} {g3_1 : Nat} {z3_1 : List Int} {g3_2 : Nat} {z3_2 : Int} {r : (List Int)} (h : slices_insertionSortCmpFunc_int__impl_Allocate_1 x0 x1 x2 z3_0 z3_1 z3_2 = some r)  :
    GivesMQ Try.prog (fun w => ∀ (q0 : Int) (q1 : Int) (r : Int), impl_Allocate_1 q0 q1 z3_0 z3_1 z3_2 = some r → Gives0 Try.prog 35 #[.int .i64 q0, .int .i64 q1, .pointer (some ⟨g3_0, 0, none⟩), .pointer (some ⟨g3_1, 0, none⟩), .pointer (some ⟨g3_2, 0, none⟩)] w (.int .i64 r)) 43 #[.slice a0_0 x0.length c0_0, .int .i64 x1, .int .i64 x2, .func (.func 35) #[] #[.pointer (some ⟨g3_0, 0, none⟩), .pointer (some ⟨g3_1, 0, none⟩), .pointer (some ⟨g3_2, 0, none⟩)]] W [SlRes e0_0 x0 a0_0 c0_0] [SlRes e0_0 r a0_0 c0_0] (.tuple #[]) := by
 unfold slices_insertionSortCmpFunc_int__impl_Allocate_1 at h
 refine enterMQ [.v (.slice a0_0 x0.length c0_0), vi x1, vi x2, .v (.func (.func 35) #[] #[.pointer (some ⟨g3_0, 0, none⟩), .pointer (some ⟨g3_1, 0, none⟩), .pointer (some ⟨g3_2, 0, none⟩)])] (args := [.slice a0_0 x0.length c0_0, .int .i64 x1, .int .i64 x2, .func (.func 35) #[] #[.pointer (some ⟨g3_0, 0, none⟩), .pointer (some ⟨g3_1, 0, none⟩), .pointer (some ⟨g3_2, 0, none⟩)]]) (by kernel_rfl) (by kernel_rfl) Try.func43 rfl Try.ntmps43 (by kernel_rfl) (fun Fs hq => ?_)
 refine qs (qr (oN 3 [(8, vi (w64 (x1 + 1)))] [0, 1, 2, 3] ?_))
 refine oe (nt ?_)
 obtain ⟨r24, hL25, h26⟩ := bS h
 obtain ⟨k27, hk28, h26⟩ := brkS h26
 refine JC_cutP (τ := ((List Int)) × (Unit)) (fun y => k27 y.1 = some r) (fun y32 => [(0, .v (.slice a0_0 y32.1.length c0_0)), (3, .v (.func (.func 35) #[] #[.pointer (some ⟨g3_0, 0, none⟩), .pointer (some ⟨g3_1, 0, none⟩), .pointer (some ⟨g3_2, 0, none⟩)]))]) (fun y32 => []) (fun y32 => [SlRes e0_0 y32.1 a0_0 c0_0]) ?_ (fun y32 h33p => ?_)
 · refine qb (lp Unit hL25 (fun s21 y22 => [(8, vi s21.1), (0, .v (.slice a0_0 s21.2.1.length c0_0)), (1, vi s21.2.2.1), (2, vi s21.2.2.2), (3, .v (.func (.func 35) #[] #[.pointer (some ⟨g3_0, 0, none⟩), .pointer (some ⟨g3_1, 0, none⟩), .pointer (some ⟨g3_2, 0, none⟩)]))]) (fun s21 y22 => []) (fun s21 y22 => [SlRes e0_0 s21.2.1 a0_0 c0_0]) () [8, 0, 1, 2, 3] [0] 0 (fun s21 y22 t23 h29 hd30 => ?_))
   refine qs (qs (qr (oN 3 [(14, vb (decide (s21.1 < s21.2.2.2)))] [8, 0, 1, 2, 3] ?_)))
   refine oe (nt (cC h29 (fun h35 => ?_) (fun h36 => ?_)))
   · refine qk (nt (qs (qb (qs (qr (oN 2 [(9, vi s21.1)] [8, 0, 1, 2, 3] ?_))))))
     refine oe (nt ?_)
     obtain ⟨r40, hL41, h42⟩ := bS h35
     obtain ⟨k43, hk44, h42⟩ := brkS h42
     refine JC_cutP (τ := (Int × (List Int) × Int × Int) × (Unit)) (fun y => k43 y.1 = some t23) (fun y48 => [(8, vi y48.1.1), (0, .v (.slice a0_0 y48.1.2.1.length c0_0)), (1, vi y48.1.2.2.1), (2, vi y48.1.2.2.2), (3, .v (.func (.func 35) #[] #[.pointer (some ⟨g3_0, 0, none⟩), .pointer (some ⟨g3_1, 0, none⟩), .pointer (some ⟨g3_2, 0, none⟩)]))]) (fun y48 => []) (fun y48 => [SlRes e0_0 y48.1.2.1 a0_0 c0_0]) ?_ (fun y48 h49p => ?_)
     · refine qb (lp Unit hL41 (fun s37 y38 => [(9, vi s37.1), (8, vi s21.1), (0, .v (.slice a0_0 s37.2.length c0_0)), (1, vi s21.2.2.1), (2, vi s21.2.2.2), (3, .v (.func (.func 35) #[] #[.pointer (some ⟨g3_0, 0, none⟩), .pointer (some ⟨g3_1, 0, none⟩), .pointer (some ⟨g3_2, 0, none⟩)]))]) (fun s37 y38 => []) (fun s37 y38 => [SlRes e0_0 s37.2 a0_0 c0_0]) () [9, 8, 0, 1, 2, 3] [0] 0 (fun s37 y38 t39 h45 hd46 => ?_))
       refine qs (qs ?_)
       obtain ⟨p50, hE51, h52⟩ := bS h45
       refine JC_cut (τ := Unit) (fun _ => [(0, .v (.slice a0_0 s37.2.length c0_0)), (1, vi s21.2.2.1), (2, vi s21.2.2.2), (3, .v (.func (.func 35) #[] #[.pointer (some ⟨g3_0, 0, none⟩), .pointer (some ⟨g3_1, 0, none⟩), .pointer (some ⟨g3_2, 0, none⟩)])), (8, vi s21.1), (9, vi s37.1), (34, vb p50)]) (fun _ => []) (fun _ => [SlRes e0_0 s37.2 a0_0 c0_0]) ?_ (fun _ => ?_)
       · refine JC_quiet (by kernel_rfl) (by kernel_rfl) ?_
         refine qN 4 [(21, vb (decide (s37.1 > s21.2.2.1)))] [9, 8, 0, 1, 2, 3] ?_
         refine qS 21 hE51 (fun h54 => ?_) (fun h55 => ?_)
         · refine qN 3 [(24, vi s37.1), (23, .v (.slice a0_0 s37.2.length c0_0)), (22, .v (.func (.func 35) #[] #[.pointer (some ⟨g3_0, 0, none⟩), .pointer (some ⟨g3_1, 0, none⟩), .pointer (some ⟨g3_2, 0, none⟩)]))] [21, 9, 8, 0, 1, 2, 3] ?_
           obtain ⟨x56, hx57, h58⟩ := bS h54
           refine qi 1 (fun γ w hs => (hs.view 0 rfl)) hx57 ?_
           refine ql 3 0 (.int .i64 x56) (fun γ w hs => (hs.view 0 rfl).flatq hx57) ?_
           refine qN 3 [(29, vi (w64 (s37.1 - 1))), (27, .v (.slice a0_0 s37.2.length c0_0))] [26, 22, 21, 9, 8, 0, 1, 2, 3] ?_
           obtain ⟨x59, hx60, h61⟩ := bS h58
           refine qi 1 (fun γ w hs => (hs.view 0 rfl)) hx60 ?_
           refine ql 3 0 (.int .i64 x59) (fun γ w hs => (hs.view 0 rfl).flatq hx60) ?_
           obtain ⟨t62, h63, h64⟩ := bS h61
           refine q0 (fun γ w hs => hq w hs.kept _ _ _ h63) ?_
           refine qN 2 [(34, vb (decide (t62 < 0)))] [9, 8, 0, 1, 2, 3] ?_
           refine qz ?_
           obtain rfl := sI h64
           exact mt () [0, 1, 2, 3, 8, 9, 34] [0] 0
         refine qN 13 [(34, vb false)] [9, 8, 0, 1, 2, 3] ?_
         refine qz ?_
         obtain rfl := sI h55
         exact mt () [0, 1, 2, 3, 8, 9, 34] [0] 0
       refine nt (cC h52 (fun h67 => ?_) (fun h68 => ?_))
       · refine qk (nt (qs (qb ?_)))
         obtain ⟨x69, hx70, h71⟩ := bS h67
         obtain ⟨x72, hx73, h74⟩ := bS h71
         obtain ⟨x75, hx76, h77⟩ := bS h74
         obtain ⟨l78, hm79, h80⟩ := bS h77
         replace hm79 := (sI hm79).symm
         have hl81 := len_set hm79
         obtain ⟨x82, hx83, h84⟩ := bS h80
         obtain ⟨l85, hm86, h87⟩ := bS h84
         replace hm86 := (sI hm86).symm
         have hl88 := len_set hm86
         refine JC_cut (τ := Unit) (fun _ => [(0, .v (.slice a0_0 l85.length c0_0)), (1, vi s21.2.2.1), (2, vi s21.2.2.2), (3, .v (.func (.func 35) #[] #[.pointer (some ⟨g3_0, 0, none⟩), .pointer (some ⟨g3_1, 0, none⟩), .pointer (some ⟨g3_2, 0, none⟩)])), (8, vi s21.1), (9, vi s37.1)]) (fun _ => []) (fun _ => [SlRes e0_0 l85 a0_0 c0_0]) ?_ (fun _ => ?_)
         · refine jw [0, 1, 2, 3, 8, 9] [0] ?_
           refine JC_heldN (ks := []) (Rk := []) 18 (by kernel_rfl) (by kernel_rfl) ?_
           refine htq 0 (.v (.slice a0_0 s37.2.length c0_0)) [] ?_
           refine htq 1 (vi s37.1) [] ?_
           refine htq 2 (.v (.slice a0_0 s37.2.length c0_0)) [] ?_
           refine htq 3 (vi s37.1) [] ?_
           refine htq 4 (vi (w64 (s37.1 - 1))) [] ?_
           refine hk [41, 39, 38, 37, 0, 1, 2, 3, 8, 9] ?_
           refine htq 5 (.v (.slice a0_0 s37.2.length c0_0)) [] ?_
           refine htq 6 (vi s37.1) [] ?_
           refine htq 7 (vi (w64 (s37.1 - 1))) [] ?_
           refine hk [44, 42, 41, 39, 38, 37, 0, 1, 2, 3, 8, 9] ?_
           refine htq 10 (.v (.slice a0_0 s37.2.length c0_0)) [] ?_
           refine htq 11 (vi s37.1) [] ?_
           refine ha2 8 12 ?_ ?_
           · refine hi (fun γ0 δ hm => ?_)
             refine JG_index (by kernel_rfl) (d := a0_0) (m := s37.2.length) (j := (w64 (s37.1 - 1))) (s := 1) (by kernel_rfl) (fun w hs => (hs.view 0 rfl)) rfl hx70 rfl ?_
             refine gn hm [45, 48, 47, 41, 39, 38, 37, 0, 1, 2, 3, 8, 9] [] ?_
             refine ha2 9 12 ?_ ?_
             · refine hi (fun γ0 δ hm => ?_)
               refine JG_loadq (by kernel_rfl) (t := 3) (d := a0_0) (Int.toNat (w64 (s37.1 - 1)) * 1) 0 (by kernel_rfl) (cs := [.int .i64 x69]) (v := .int .i64 x69) (fun w hs => (hs.view 0 rfl).flatq hx70) (by kernel_rfl) rfl ?_
               refine gn hm [46, 48, 47, 41, 39, 38, 37, 0, 1, 2, 3, 8, 9] [] ?_
               refine ha1 12 ?_
               refine hi (fun γ0 δ hm => ?_)
               refine JG_index (by kernel_rfl) (d := a0_0) (m := s37.2.length) (j := s37.1) (s := 1) (by kernel_rfl) (fun w hs => (hs.view 0 rfl)) rfl hx73 rfl ?_
               refine gn hm [49, 46, 41, 39, 38, 37, 0, 1, 2, 3, 8, 9] [] ?_
               refine ha1 13 ?_
               refine hi (fun γ0 δ hm => ?_)
               refine JG_loadq (by kernel_rfl) (t := 3) (d := a0_0) (Int.toNat s37.1 * 1) 0 (by kernel_rfl) (cs := [.int .i64 x72]) (v := .int .i64 x72) (fun w hs => (hs.view 0 rfl).flatq hx73) (by kernel_rfl) rfl ?_
               refine gn hm [50, 46, 41, 39, 38, 37, 0, 1, 2, 3, 8, 9] [] ?_
               refine ha1 14 ?_
               refine hi (fun γ0 δ hm => ?_)
               refine JG_index (by kernel_rfl) (d := a0_0) (m := s37.2.length) (j := s37.1) (s := 1) (by kernel_rfl) (fun w hs => (hs.view 0 rfl)) rfl hx76 rfl ?_
               refine gn hm [51, 50, 46, 41, 39, 0, 1, 2, 3, 8, 9] [] ?_
               refine ha1 15 ?_
               refine hi (fun γ0 δ hm => ?_)
               refine JG_storeq (α := Int) (d := a0_0) (vs := [.int .i64 x69]) (j := s37.1) (x' := x69) (by kernel_rfl) 0 (by kernel_rfl) hx76 (Rc := []) (Rr := []) rfl (by kernel_rfl) (fun w c F Fs ho _ _ => own_flat_set (by kernel_rfl) ho) hm79 (sl' := [(51, .q a0_0 (Int.toNat s37.1 * 1)), (50, vi x72), (46, vi x69), (41, vi (w64 (s37.1 - 1))), (39, .v (.slice a0_0 s37.2.length c0_0)), (0, .v (.slice a0_0 s37.2.length c0_0)), (1, vi s21.2.2.1), (2, vi s21.2.2.2), (3, .v (.func (.func 35) #[] #[.pointer (some ⟨g3_0, 0, none⟩), .pointer (some ⟨g3_1, 0, none⟩), .pointer (some ⟨g3_2, 0, none⟩)])), (8, vi s21.1), (9, vi s37.1)]) (by kernel_rfl) ?_
               refine KG_eqE (sl' := [(51, .q a0_0 (Int.toNat s37.1 * 1)), (50, vi x72), (46, vi x69), (41, vi (w64 (s37.1 - 1))), (39, .v (.slice a0_0 l78.length c0_0)), (0, .v (.slice a0_0 l78.length c0_0)), (1, vi s21.2.2.1), (2, vi s21.2.2.2), (3, .v (.func (.func 35) #[] #[.pointer (some ⟨g3_0, 0, none⟩), .pointer (some ⟨g3_1, 0, none⟩), .pointer (some ⟨g3_2, 0, none⟩)])), (8, vi s21.1), (9, vi s37.1)]) (bx' := []) (by simp only [hl81]) rfl ?_
               refine gn hm [50, 41, 39, 0, 1, 2, 3, 8, 9] [] ?_
               refine ha1 16 ?_
               refine hi (fun γ0 δ hm => ?_)
               refine JG_index (by kernel_rfl) (d := a0_0) (m := l78.length) (j := (w64 (s37.1 - 1))) (s := 1) (by kernel_rfl) (fun w hs => (hs.view 0 rfl)) rfl hx83 rfl ?_
               refine gn hm [52, 50, 0, 1, 2, 3, 8, 9] [] ?_
               refine ha1 17 ?_
               refine hi (fun γ0 δ hm => ?_)
               refine JG_storeq (α := Int) (d := a0_0) (vs := [.int .i64 x72]) (j := (w64 (s37.1 - 1))) (x' := x72) (by kernel_rfl) 0 (by kernel_rfl) hx83 (Rc := []) (Rr := []) rfl (by kernel_rfl) (fun w c F Fs ho _ _ => own_flat_set (by kernel_rfl) ho) hm86 (sl' := [(52, .q a0_0 (Int.toNat (w64 (s37.1 - 1)) * 1)), (50, vi x72), (0, .v (.slice a0_0 l78.length c0_0)), (1, vi s21.2.2.1), (2, vi s21.2.2.2), (3, .v (.func (.func 35) #[] #[.pointer (some ⟨g3_0, 0, none⟩), .pointer (some ⟨g3_1, 0, none⟩), .pointer (some ⟨g3_2, 0, none⟩)])), (8, vi s21.1), (9, vi s37.1)]) (by kernel_rfl) ?_
               refine KG_eqE (sl' := [(52, .q a0_0 (Int.toNat (w64 (s37.1 - 1)) * 1)), (50, vi x72), (0, .v (.slice a0_0 l85.length c0_0)), (1, vi s21.2.2.1), (2, vi s21.2.2.2), (3, .v (.func (.func 35) #[] #[.pointer (some ⟨g3_0, 0, none⟩), .pointer (some ⟨g3_1, 0, none⟩), .pointer (some ⟨g3_2, 0, none⟩)])), (8, vi s21.1), (9, vi s37.1)]) (bx' := []) (by simp only [hl88]) rfl ?_
               refine gn hm [0, 1, 2, 3, 8, 9] [] ?_
               exact hd () [0, 1, 2, 3, 8, 9] [0] 0
             · refine hi (fun γ0 δ hm => ?_)
               refine JG_index (by kernel_rfl) (d := a0_0) (m := s37.2.length) (j := s37.1) (s := 1) (by kernel_rfl) (fun w hs => (hs.view 0 rfl)) rfl hx73 rfl ?_
               refine gn hm [49, 45, 41, 39, 38, 37, 0, 1, 2, 3, 8, 9] [] ?_
               refine ha2 9 13 ?_ ?_
               · refine hi (fun γ0 δ hm => ?_)
                 refine JG_loadq (by kernel_rfl) (t := 3) (d := a0_0) (Int.toNat (w64 (s37.1 - 1)) * 1) 0 (by kernel_rfl) (cs := [.int .i64 x69]) (v := .int .i64 x69) (fun w hs => (hs.view 0 rfl).flatq hx70) (by kernel_rfl) rfl ?_
                 refine gn hm [46, 49, 41, 39, 38, 37, 0, 1, 2, 3, 8, 9] [] ?_
                 refine ha1 13 ?_
                 refine hi (fun γ0 δ hm => ?_)
                 refine JG_loadq (by kernel_rfl) (t := 3) (d := a0_0) (Int.toNat s37.1 * 1) 0 (by kernel_rfl) (cs := [.int .i64 x72]) (v := .int .i64 x72) (fun w hs => (hs.view 0 rfl).flatq hx73) (by kernel_rfl) rfl ?_
                 refine gn hm [50, 46, 41, 39, 38, 37, 0, 1, 2, 3, 8, 9] [] ?_
                 refine ha1 14 ?_
                 refine hi (fun γ0 δ hm => ?_)
                 refine JG_index (by kernel_rfl) (d := a0_0) (m := s37.2.length) (j := s37.1) (s := 1) (by kernel_rfl) (fun w hs => (hs.view 0 rfl)) rfl hx76 rfl ?_
                 refine gn hm [51, 50, 46, 41, 39, 0, 1, 2, 3, 8, 9] [] ?_
                 refine ha1 15 ?_
                 refine hi (fun γ0 δ hm => ?_)
                 refine JG_storeq (α := Int) (d := a0_0) (vs := [.int .i64 x69]) (j := s37.1) (x' := x69) (by kernel_rfl) 0 (by kernel_rfl) hx76 (Rc := []) (Rr := []) rfl (by kernel_rfl) (fun w c F Fs ho _ _ => own_flat_set (by kernel_rfl) ho) hm79 (sl' := [(51, .q a0_0 (Int.toNat s37.1 * 1)), (50, vi x72), (46, vi x69), (41, vi (w64 (s37.1 - 1))), (39, .v (.slice a0_0 s37.2.length c0_0)), (0, .v (.slice a0_0 s37.2.length c0_0)), (1, vi s21.2.2.1), (2, vi s21.2.2.2), (3, .v (.func (.func 35) #[] #[.pointer (some ⟨g3_0, 0, none⟩), .pointer (some ⟨g3_1, 0, none⟩), .pointer (some ⟨g3_2, 0, none⟩)])), (8, vi s21.1), (9, vi s37.1)]) (by kernel_rfl) ?_
                 refine KG_eqE (sl' := [(51, .q a0_0 (Int.toNat s37.1 * 1)), (50, vi x72), (46, vi x69), (41, vi (w64 (s37.1 - 1))), (39, .v (.slice a0_0 l78.length c0_0)), (0, .v (.slice a0_0 l78.length c0_0)), (1, vi s21.2.2.1), (2, vi s21.2.2.2), (3, .v (.func (.func 35) #[] #[.pointer (some ⟨g3_0, 0, none⟩), .pointer (some ⟨g3_1, 0, none⟩), .pointer (some ⟨g3_2, 0, none⟩)])), (8, vi s21.1), (9, vi s37.1)]) (bx' := []) (by simp only [hl81]) rfl ?_
                 refine gn hm [50, 41, 39, 0, 1, 2, 3, 8, 9] [] ?_
                 refine ha1 16 ?_
                 refine hi (fun γ0 δ hm => ?_)
                 refine JG_index (by kernel_rfl) (d := a0_0) (m := l78.length) (j := (w64 (s37.1 - 1))) (s := 1) (by kernel_rfl) (fun w hs => (hs.view 0 rfl)) rfl hx83 rfl ?_
                 refine gn hm [52, 50, 0, 1, 2, 3, 8, 9] [] ?_
                 refine ha1 17 ?_
                 refine hi (fun γ0 δ hm => ?_)
                 refine JG_storeq (α := Int) (d := a0_0) (vs := [.int .i64 x72]) (j := (w64 (s37.1 - 1))) (x' := x72) (by kernel_rfl) 0 (by kernel_rfl) hx83 (Rc := []) (Rr := []) rfl (by kernel_rfl) (fun w c F Fs ho _ _ => own_flat_set (by kernel_rfl) ho) hm86 (sl' := [(52, .q a0_0 (Int.toNat (w64 (s37.1 - 1)) * 1)), (50, vi x72), (0, .v (.slice a0_0 l78.length c0_0)), (1, vi s21.2.2.1), (2, vi s21.2.2.2), (3, .v (.func (.func 35) #[] #[.pointer (some ⟨g3_0, 0, none⟩), .pointer (some ⟨g3_1, 0, none⟩), .pointer (some ⟨g3_2, 0, none⟩)])), (8, vi s21.1), (9, vi s37.1)]) (by kernel_rfl) ?_
                 refine KG_eqE (sl' := [(52, .q a0_0 (Int.toNat (w64 (s37.1 - 1)) * 1)), (50, vi x72), (0, .v (.slice a0_0 l85.length c0_0)), (1, vi s21.2.2.1), (2, vi s21.2.2.2), (3, .v (.func (.func 35) #[] #[.pointer (some ⟨g3_0, 0, none⟩), .pointer (some ⟨g3_1, 0, none⟩), .pointer (some ⟨g3_2, 0, none⟩)])), (8, vi s21.1), (9, vi s37.1)]) (bx' := []) (by simp only [hl88]) rfl ?_
                 refine gn hm [0, 1, 2, 3, 8, 9] [] ?_
                 exact hd () [0, 1, 2, 3, 8, 9] [0] 0
               · refine hi (fun γ0 δ hm => ?_)
                 refine JG_loadq (by kernel_rfl) (t := 3) (d := a0_0) (Int.toNat s37.1 * 1) 0 (by kernel_rfl) (cs := [.int .i64 x72]) (v := .int .i64 x72) (fun w hs => (hs.view 0 rfl).flatq hx73) (by kernel_rfl) rfl ?_
                 refine gn hm [50, 45, 41, 39, 38, 37, 0, 1, 2, 3, 8, 9] [] ?_
                 refine ha1 9 ?_
                 refine hi (fun γ0 δ hm => ?_)
                 refine JG_loadq (by kernel_rfl) (t := 3) (d := a0_0) (Int.toNat (w64 (s37.1 - 1)) * 1) 0 (by kernel_rfl) (cs := [.int .i64 x69]) (v := .int .i64 x69) (fun w hs => (hs.view 0 rfl).flatq hx70) (by kernel_rfl) rfl ?_
                 refine gn hm [46, 50, 41, 39, 38, 37, 0, 1, 2, 3, 8, 9] [] ?_
                 refine ha1 14 ?_
                 refine hi (fun γ0 δ hm => ?_)
                 refine JG_index (by kernel_rfl) (d := a0_0) (m := s37.2.length) (j := s37.1) (s := 1) (by kernel_rfl) (fun w hs => (hs.view 0 rfl)) rfl hx76 rfl ?_
                 refine gn hm [51, 46, 50, 41, 39, 0, 1, 2, 3, 8, 9] [] ?_
                 refine ha1 15 ?_
                 refine hi (fun γ0 δ hm => ?_)
                 refine JG_storeq (α := Int) (d := a0_0) (vs := [.int .i64 x69]) (j := s37.1) (x' := x69) (by kernel_rfl) 0 (by kernel_rfl) hx76 (Rc := []) (Rr := []) rfl (by kernel_rfl) (fun w c F Fs ho _ _ => own_flat_set (by kernel_rfl) ho) hm79 (sl' := [(51, .q a0_0 (Int.toNat s37.1 * 1)), (46, vi x69), (50, vi x72), (41, vi (w64 (s37.1 - 1))), (39, .v (.slice a0_0 s37.2.length c0_0)), (0, .v (.slice a0_0 s37.2.length c0_0)), (1, vi s21.2.2.1), (2, vi s21.2.2.2), (3, .v (.func (.func 35) #[] #[.pointer (some ⟨g3_0, 0, none⟩), .pointer (some ⟨g3_1, 0, none⟩), .pointer (some ⟨g3_2, 0, none⟩)])), (8, vi s21.1), (9, vi s37.1)]) (by kernel_rfl) ?_
                 refine KG_eqE (sl' := [(51, .q a0_0 (Int.toNat s37.1 * 1)), (46, vi x69), (50, vi x72), (41, vi (w64 (s37.1 - 1))), (39, .v (.slice a0_0 l78.length c0_0)), (0, .v (.slice a0_0 l78.length c0_0)), (1, vi s21.2.2.1), (2, vi s21.2.2.2), (3, .v (.func (.func 35) #[] #[.pointer (some ⟨g3_0, 0, none⟩), .pointer (some ⟨g3_1, 0, none⟩), .pointer (some ⟨g3_2, 0, none⟩)])), (8, vi s21.1), (9, vi s37.1)]) (bx' := []) (by simp only [hl81]) rfl ?_
                 refine gn hm [50, 41, 39, 0, 1, 2, 3, 8, 9] [] ?_
                 refine ha1 16 ?_
                 refine hi (fun γ0 δ hm => ?_)
                 refine JG_index (by kernel_rfl) (d := a0_0) (m := l78.length) (j := (w64 (s37.1 - 1))) (s := 1) (by kernel_rfl) (fun w hs => (hs.view 0 rfl)) rfl hx83 rfl ?_
                 refine gn hm [52, 50, 0, 1, 2, 3, 8, 9] [] ?_
                 refine ha1 17 ?_
                 refine hi (fun γ0 δ hm => ?_)
                 refine JG_storeq (α := Int) (d := a0_0) (vs := [.int .i64 x72]) (j := (w64 (s37.1 - 1))) (x' := x72) (by kernel_rfl) 0 (by kernel_rfl) hx83 (Rc := []) (Rr := []) rfl (by kernel_rfl) (fun w c F Fs ho _ _ => own_flat_set (by kernel_rfl) ho) hm86 (sl' := [(52, .q a0_0 (Int.toNat (w64 (s37.1 - 1)) * 1)), (50, vi x72), (0, .v (.slice a0_0 l78.length c0_0)), (1, vi s21.2.2.1), (2, vi s21.2.2.2), (3, .v (.func (.func 35) #[] #[.pointer (some ⟨g3_0, 0, none⟩), .pointer (some ⟨g3_1, 0, none⟩), .pointer (some ⟨g3_2, 0, none⟩)])), (8, vi s21.1), (9, vi s37.1)]) (by kernel_rfl) ?_
                 refine KG_eqE (sl' := [(52, .q a0_0 (Int.toNat (w64 (s37.1 - 1)) * 1)), (50, vi x72), (0, .v (.slice a0_0 l85.length c0_0)), (1, vi s21.2.2.1), (2, vi s21.2.2.2), (3, .v (.func (.func 35) #[] #[.pointer (some ⟨g3_0, 0, none⟩), .pointer (some ⟨g3_1, 0, none⟩), .pointer (some ⟨g3_2, 0, none⟩)])), (8, vi s21.1), (9, vi s37.1)]) (bx' := []) (by simp only [hl88]) rfl ?_
                 refine gn hm [0, 1, 2, 3, 8, 9] [] ?_
                 exact hd () [0, 1, 2, 3, 8, 9] [0] 0
           · refine hi (fun γ0 δ hm => ?_)
             refine JG_index (by kernel_rfl) (d := a0_0) (m := s37.2.length) (j := s37.1) (s := 1) (by kernel_rfl) (fun w hs => (hs.view 0 rfl)) rfl hx73 rfl ?_
             refine gn hm [49, 44, 42, 41, 39, 38, 37, 0, 1, 2, 3, 8, 9] [] ?_
             refine ha2 8 13 ?_ ?_
             · refine hi (fun γ0 δ hm => ?_)
               refine JG_index (by kernel_rfl) (d := a0_0) (m := s37.2.length) (j := (w64 (s37.1 - 1))) (s := 1) (by kernel_rfl) (fun w hs => (hs.view 0 rfl)) rfl hx70 rfl ?_
               refine gn hm [45, 49, 41, 39, 38, 37, 0, 1, 2, 3, 8, 9] [] ?_
               refine ha2 9 13 ?_ ?_
               · refine hi (fun γ0 δ hm => ?_)
                 refine JG_loadq (by kernel_rfl) (t := 3) (d := a0_0) (Int.toNat (w64 (s37.1 - 1)) * 1) 0 (by kernel_rfl) (cs := [.int .i64 x69]) (v := .int .i64 x69) (fun w hs => (hs.view 0 rfl).flatq hx70) (by kernel_rfl) rfl ?_
                 refine gn hm [46, 49, 41, 39, 38, 37, 0, 1, 2, 3, 8, 9] [] ?_
                 refine ha1 13 ?_
                 refine hi (fun γ0 δ hm => ?_)
                 refine JG_loadq (by kernel_rfl) (t := 3) (d := a0_0) (Int.toNat s37.1 * 1) 0 (by kernel_rfl) (cs := [.int .i64 x72]) (v := .int .i64 x72) (fun w hs => (hs.view 0 rfl).flatq hx73) (by kernel_rfl) rfl ?_
                 refine gn hm [50, 46, 41, 39, 38, 37, 0, 1, 2, 3, 8, 9] [] ?_
                 refine ha1 14 ?_
                 refine hi (fun γ0 δ hm => ?_)
                 refine JG_index (by kernel_rfl) (d := a0_0) (m := s37.2.length) (j := s37.1) (s := 1) (by kernel_rfl) (fun w hs => (hs.view 0 rfl)) rfl hx76 rfl ?_
                 refine gn hm [51, 50, 46, 41, 39, 0, 1, 2, 3, 8, 9] [] ?_
                 refine ha1 15 ?_
                 refine hi (fun γ0 δ hm => ?_)
                 refine JG_storeq (α := Int) (d := a0_0) (vs := [.int .i64 x69]) (j := s37.1) (x' := x69) (by kernel_rfl) 0 (by kernel_rfl) hx76 (Rc := []) (Rr := []) rfl (by kernel_rfl) (fun w c F Fs ho _ _ => own_flat_set (by kernel_rfl) ho) hm79 (sl' := [(51, .q a0_0 (Int.toNat s37.1 * 1)), (50, vi x72), (46, vi x69), (41, vi (w64 (s37.1 - 1))), (39, .v (.slice a0_0 s37.2.length c0_0)), (0, .v (.slice a0_0 s37.2.length c0_0)), (1, vi s21.2.2.1), (2, vi s21.2.2.2), (3, .v (.func (.func 35) #[] #[.pointer (some ⟨g3_0, 0, none⟩), .pointer (some ⟨g3_1, 0, none⟩), .pointer (some ⟨g3_2, 0, none⟩)])), (8, vi s21.1), (9, vi s37.1)]) (by kernel_rfl) ?_
                 refine KG_eqE (sl' := [(51, .q a0_0 (Int.toNat s37.1 * 1)), (50, vi x72), (46, vi x69), (41, vi (w64 (s37.1 - 1))), (39, .v (.slice a0_0 l78.length c0_0)), (0, .v (.slice a0_0 l78.length c0_0)), (1, vi s21.2.2.1), (2, vi s21.2.2.2), (3, .v (.func (.func 35) #[] #[.pointer (some ⟨g3_0, 0, none⟩), .pointer (some ⟨g3_1, 0, none⟩), .pointer (some ⟨g3_2, 0, none⟩)])), (8, vi s21.1), (9, vi s37.1)]) (bx' := []) (by simp only [hl81]) rfl ?_
                 refine gn hm [50, 41, 39, 0, 1, 2, 3, 8, 9] [] ?_
                 refine ha1 16 ?_
                 refine hi (fun γ0 δ hm => ?_)
                 refine JG_index (by kernel_rfl) (d := a0_0) (m := l78.length) (j := (w64 (s37.1 - 1))) (s := 1) (by kernel_rfl) (fun w hs => (hs.view 0 rfl)) rfl hx83 rfl ?_
                 refine gn hm [52, 50, 0, 1, 2, 3, 8, 9] [] ?_
                 refine ha1 17 ?_
                 refine hi (fun γ0 δ hm => ?_)
                 refine JG_storeq (α := Int) (d := a0_0) (vs := [.int .i64 x72]) (j := (w64 (s37.1 - 1))) (x' := x72) (by kernel_rfl) 0 (by kernel_rfl) hx83 (Rc := []) (Rr := []) rfl (by kernel_rfl) (fun w c F Fs ho _ _ => own_flat_set (by kernel_rfl) ho) hm86 (sl' := [(52, .q a0_0 (Int.toNat (w64 (s37.1 - 1)) * 1)), (50, vi x72), (0, .v (.slice a0_0 l78.length c0_0)), (1, vi s21.2.2.1), (2, vi s21.2.2.2), (3, .v (.func (.func 35) #[] #[.pointer (some ⟨g3_0, 0, none⟩), .pointer (some ⟨g3_1, 0, none⟩), .pointer (some ⟨g3_2, 0, none⟩)])), (8, vi s21.1), (9, vi s37.1)]) (by kernel_rfl) ?_
                 refine KG_eqE (sl' := [(52, .q a0_0 (Int.toNat (w64 (s37.1 - 1)) * 1)), (50, vi x72), (0, .v (.slice a0_0 l85.length c0_0)), (1, vi s21.2.2.1), (2, vi s21.2.2.2), (3, .v (.func (.func 35) #[] #[.pointer (some ⟨g3_0, 0, none⟩), .pointer (some ⟨g3_1, 0, none⟩), .pointer (some ⟨g3_2, 0, none⟩)])), (8, vi s21.1), (9, vi s37.1)]) (bx' := []) (by simp only [hl88]) rfl ?_
                 refine gn hm [0, 1, 2, 3, 8, 9] [] ?_
                 exact hd () [0, 1, 2, 3, 8, 9] [0] 0
               · refine hi (fun γ0 δ hm => ?_)
                 refine JG_loadq (by kernel_rfl) (t := 3) (d := a0_0) (Int.toNat s37.1 * 1) 0 (by kernel_rfl) (cs := [.int .i64 x72]) (v := .int .i64 x72) (fun w hs => (hs.view 0 rfl).flatq hx73) (by kernel_rfl) rfl ?_
                 refine gn hm [50, 45, 41, 39, 38, 37, 0, 1, 2, 3, 8, 9] [] ?_
                 refine ha1 9 ?_
                 refine hi (fun γ0 δ hm => ?_)
                 refine JG_loadq (by kernel_rfl) (t := 3) (d := a0_0) (Int.toNat (w64 (s37.1 - 1)) * 1) 0 (by kernel_rfl) (cs := [.int .i64 x69]) (v := .int .i64 x69) (fun w hs => (hs.view 0 rfl).flatq hx70) (by kernel_rfl) rfl ?_
                 refine gn hm [46, 50, 41, 39, 38, 37, 0, 1, 2, 3, 8, 9] [] ?_
                 refine ha1 14 ?_
                 refine hi (fun γ0 δ hm => ?_)
                 refine JG_index (by kernel_rfl) (d := a0_0) (m := s37.2.length) (j := s37.1) (s := 1) (by kernel_rfl) (fun w hs => (hs.view 0 rfl)) rfl hx76 rfl ?_
                 refine gn hm [51, 46, 50, 41, 39, 0, 1, 2, 3, 8, 9] [] ?_
                 refine ha1 15 ?_
                 refine hi (fun γ0 δ hm => ?_)
                 refine JG_storeq (α := Int) (d := a0_0) (vs := [.int .i64 x69]) (j := s37.1) (x' := x69) (by kernel_rfl) 0 (by kernel_rfl) hx76 (Rc := []) (Rr := []) rfl (by kernel_rfl) (fun w c F Fs ho _ _ => own_flat_set (by kernel_rfl) ho) hm79 (sl' := [(51, .q a0_0 (Int.toNat s37.1 * 1)), (46, vi x69), (50, vi x72), (41, vi (w64 (s37.1 - 1))), (39, .v (.slice a0_0 s37.2.length c0_0)), (0, .v (.slice a0_0 s37.2.length c0_0)), (1, vi s21.2.2.1), (2, vi s21.2.2.2), (3, .v (.func (.func 35) #[] #[.pointer (some ⟨g3_0, 0, none⟩), .pointer (some ⟨g3_1, 0, none⟩), .pointer (some ⟨g3_2, 0, none⟩)])), (8, vi s21.1), (9, vi s37.1)]) (by kernel_rfl) ?_
                 refine KG_eqE (sl' := [(51, .q a0_0 (Int.toNat s37.1 * 1)), (46, vi x69), (50, vi x72), (41, vi (w64 (s37.1 - 1))), (39, .v (.slice a0_0 l78.length c0_0)), (0, .v (.slice a0_0 l78.length c0_0)), (1, vi s21.2.2.1), (2, vi s21.2.2.2), (3, .v (.func (.func 35) #[] #[.pointer (some ⟨g3_0, 0, none⟩), .pointer (some ⟨g3_1, 0, none⟩), .pointer (some ⟨g3_2, 0, none⟩)])), (8, vi s21.1), (9, vi s37.1)]) (bx' := []) (by simp only [hl81]) rfl ?_
                 refine gn hm [50, 41, 39, 0, 1, 2, 3, 8, 9] [] ?_
                 refine ha1 16 ?_
                 refine hi (fun γ0 δ hm => ?_)
                 refine JG_index (by kernel_rfl) (d := a0_0) (m := l78.length) (j := (w64 (s37.1 - 1))) (s := 1) (by kernel_rfl) (fun w hs => (hs.view 0 rfl)) rfl hx83 rfl ?_
                 refine gn hm [52, 50, 0, 1, 2, 3, 8, 9] [] ?_
                 refine ha1 17 ?_
                 refine hi (fun γ0 δ hm => ?_)
                 refine JG_storeq (α := Int) (d := a0_0) (vs := [.int .i64 x72]) (j := (w64 (s37.1 - 1))) (x' := x72) (by kernel_rfl) 0 (by kernel_rfl) hx83 (Rc := []) (Rr := []) rfl (by kernel_rfl) (fun w c F Fs ho _ _ => own_flat_set (by kernel_rfl) ho) hm86 (sl' := [(52, .q a0_0 (Int.toNat (w64 (s37.1 - 1)) * 1)), (50, vi x72), (0, .v (.slice a0_0 l78.length c0_0)), (1, vi s21.2.2.1), (2, vi s21.2.2.2), (3, .v (.func (.func 35) #[] #[.pointer (some ⟨g3_0, 0, none⟩), .pointer (some ⟨g3_1, 0, none⟩), .pointer (some ⟨g3_2, 0, none⟩)])), (8, vi s21.1), (9, vi s37.1)]) (by kernel_rfl) ?_
                 refine KG_eqE (sl' := [(52, .q a0_0 (Int.toNat (w64 (s37.1 - 1)) * 1)), (50, vi x72), (0, .v (.slice a0_0 l85.length c0_0)), (1, vi s21.2.2.1), (2, vi s21.2.2.2), (3, .v (.func (.func 35) #[] #[.pointer (some ⟨g3_0, 0, none⟩), .pointer (some ⟨g3_1, 0, none⟩), .pointer (some ⟨g3_2, 0, none⟩)])), (8, vi s21.1), (9, vi s37.1)]) (bx' := []) (by simp only [hl88]) rfl ?_
                 refine gn hm [0, 1, 2, 3, 8, 9] [] ?_
                 exact hd () [0, 1, 2, 3, 8, 9] [0] 0
             · refine hi (fun γ0 δ hm => ?_)
               refine JG_loadq (by kernel_rfl) (t := 3) (d := a0_0) (Int.toNat s37.1 * 1) 0 (by kernel_rfl) (cs := [.int .i64 x72]) (v := .int .i64 x72) (fun w hs => (hs.view 0 rfl).flatq hx73) (by kernel_rfl) rfl ?_
               refine gn hm [50, 44, 42, 41, 39, 38, 37, 0, 1, 2, 3, 8, 9] [] ?_
               refine ha1 8 ?_
               refine hi (fun γ0 δ hm => ?_)
               refine JG_index (by kernel_rfl) (d := a0_0) (m := s37.2.length) (j := (w64 (s37.1 - 1))) (s := 1) (by kernel_rfl) (fun w hs => (hs.view 0 rfl)) rfl hx70 rfl ?_
               refine gn hm [45, 50, 41, 39, 38, 37, 0, 1, 2, 3, 8, 9] [] ?_
               refine ha1 9 ?_
               refine hi (fun γ0 δ hm => ?_)
               refine JG_loadq (by kernel_rfl) (t := 3) (d := a0_0) (Int.toNat (w64 (s37.1 - 1)) * 1) 0 (by kernel_rfl) (cs := [.int .i64 x69]) (v := .int .i64 x69) (fun w hs => (hs.view 0 rfl).flatq hx70) (by kernel_rfl) rfl ?_
               refine gn hm [46, 50, 41, 39, 38, 37, 0, 1, 2, 3, 8, 9] [] ?_
               refine ha1 14 ?_
               refine hi (fun γ0 δ hm => ?_)
               refine JG_index (by kernel_rfl) (d := a0_0) (m := s37.2.length) (j := s37.1) (s := 1) (by kernel_rfl) (fun w hs => (hs.view 0 rfl)) rfl hx76 rfl ?_
               refine gn hm [51, 46, 50, 41, 39, 0, 1, 2, 3, 8, 9] [] ?_
               refine ha1 15 ?_
               refine hi (fun γ0 δ hm => ?_)
               refine JG_storeq (α := Int) (d := a0_0) (vs := [.int .i64 x69]) (j := s37.1) (x' := x69) (by kernel_rfl) 0 (by kernel_rfl) hx76 (Rc := []) (Rr := []) rfl (by kernel_rfl) (fun w c F Fs ho _ _ => own_flat_set (by kernel_rfl) ho) hm79 (sl' := [(51, .q a0_0 (Int.toNat s37.1 * 1)), (46, vi x69), (50, vi x72), (41, vi (w64 (s37.1 - 1))), (39, .v (.slice a0_0 s37.2.length c0_0)), (0, .v (.slice a0_0 s37.2.length c0_0)), (1, vi s21.2.2.1), (2, vi s21.2.2.2), (3, .v (.func (.func 35) #[] #[.pointer (some ⟨g3_0, 0, none⟩), .pointer (some ⟨g3_1, 0, none⟩), .pointer (some ⟨g3_2, 0, none⟩)])), (8, vi s21.1), (9, vi s37.1)]) (by kernel_rfl) ?_
               refine KG_eqE (sl' := [(51, .q a0_0 (Int.toNat s37.1 * 1)), (46, vi x69), (50, vi x72), (41, vi (w64 (s37.1 - 1))), (39, .v (.slice a0_0 l78.length c0_0)), (0, .v (.slice a0_0 l78.length c0_0)), (1, vi s21.2.2.1), (2, vi s21.2.2.2), (3, .v (.func (.func 35) #[] #[.pointer (some ⟨g3_0, 0, none⟩), .pointer (some ⟨g3_1, 0, none⟩), .pointer (some ⟨g3_2, 0, none⟩)])), (8, vi s21.1), (9, vi s37.1)]) (bx' := []) (by simp only [hl81]) rfl ?_
               refine gn hm [50, 41, 39, 0, 1, 2, 3, 8, 9] [] ?_
               refine ha1 16 ?_
               refine hi (fun γ0 δ hm => ?_)
               refine JG_index (by kernel_rfl) (d := a0_0) (m := l78.length) (j := (w64 (s37.1 - 1))) (s := 1) (by kernel_rfl) (fun w hs => (hs.view 0 rfl)) rfl hx83 rfl ?_
               refine gn hm [52, 50, 0, 1, 2, 3, 8, 9] [] ?_
               refine ha1 17 ?_
               refine hi (fun γ0 δ hm => ?_)
               refine JG_storeq (α := Int) (d := a0_0) (vs := [.int .i64 x72]) (j := (w64 (s37.1 - 1))) (x' := x72) (by kernel_rfl) 0 (by kernel_rfl) hx83 (Rc := []) (Rr := []) rfl (by kernel_rfl) (fun w c F Fs ho _ _ => own_flat_set (by kernel_rfl) ho) hm86 (sl' := [(52, .q a0_0 (Int.toNat (w64 (s37.1 - 1)) * 1)), (50, vi x72), (0, .v (.slice a0_0 l78.length c0_0)), (1, vi s21.2.2.1), (2, vi s21.2.2.2), (3, .v (.func (.func 35) #[] #[.pointer (some ⟨g3_0, 0, none⟩), .pointer (some ⟨g3_1, 0, none⟩), .pointer (some ⟨g3_2, 0, none⟩)])), (8, vi s21.1), (9, vi s37.1)]) (by kernel_rfl) ?_
               refine KG_eqE (sl' := [(52, .q a0_0 (Int.toNat (w64 (s37.1 - 1)) * 1)), (50, vi x72), (0, .v (.slice a0_0 l85.length c0_0)), (1, vi s21.2.2.1), (2, vi s21.2.2.2), (3, .v (.func (.func 35) #[] #[.pointer (some ⟨g3_0, 0, none⟩), .pointer (some ⟨g3_1, 0, none⟩), .pointer (some ⟨g3_2, 0, none⟩)])), (8, vi s21.1), (9, vi s37.1)]) (bx' := []) (by simp only [hl88]) rfl ?_
               refine gn hm [0, 1, 2, 3, 8, 9] [] ?_
               exact hd () [0, 1, 2, 3, 8, 9] [0] 0
         refine bn (nt (qr (oN 3 [(9, vi (w64 (s37.1 - 1)))] [0, 1, 2, 3, 8] ?_)))
         exact oe (ct h87 () [9, 8, 0, 1, 2, 3] [0] 0)
       refine qx (nx (nx (bh ?_)))
       have h90 := leafB hd46 h68 h42
       exact mp ((s21.1, s37.2, s21.2.2.1, s21.2.2.2), ()) h90 [8, 0, 1, 2, 3] [0] 0
     have h49 := (congrFun hk44 _).symm.trans h49p
     refine bn (nt (qr (oN 3 [(8, vi (w64 (y48.1.1 + 1)))] [0, 1, 2, 3] ?_)))
     exact oe (ct h49 () [8, 0, 1, 2, 3] [0] 0)
   refine qx (nx (nx (bh ?_)))
   have h91 := leafB hd30 h36 h26
   exact mp (s21.2.1, ()) h91 [0, 3] [0] 0
 have h33 := (congrFun hk28 _).symm.trans h33p
 refine JE_fall (vs := []) (by kernel_rfl) (fun γ w hs => ?_)
 rw [← sI h33]
 exact hs.turned (is := [0]) rfl

theorem c_slices_swapRangeCmpFunc_int__impl_Allocate_1 {W : World} {x0 : List Int} {a0_0 : Option Addr} {c0_0 : Nat} {e0_0 : TypeId} {x1 : Int} {x2 : Int} {x3 : Int} {g4_0 : Nat} {z4_0 : Int} {g4_1 : Nat} {z4_1 : List Int} {g4_2 : Nat} {z4_2 : Int} {r : (List Int)} (h : slices_swapRangeCmpFunc_int__impl_Allocate_1 x0 x1 x2 x3 z4_0 z4_1 z4_2 = some r)  :
    GivesMQ Try.prog (fun w => ∀ (q0 : Int) (q1 : Int) (r : Int), impl_Allocate_1 q0 q1 z4_0 z4_1 z4_2 = some r → Gives0 Try.prog 35 #[.int .i64 q0, .int .i64 q1, .pointer (some ⟨g4_0, 0, none⟩), .pointer (some ⟨g4_1, 0, none⟩), .pointer (some ⟨g4_2, 0, none⟩)] w (.int .i64 r)) 46 #[.slice a0_0 x0.length c0_0, .int .i64 x1, .int .i64 x2, .int .i64 x3, .func (.func 35) #[] #[.pointer (some ⟨g4_0, 0, none⟩), .pointer (some ⟨g4_1, 0, none⟩), .pointer (some ⟨g4_2, 0, none⟩)]] W [SlRes e0_0 x0 a0_0 c0_0] [SlRes e0_0 r a0_0 c0_0] (.tuple #[]) := by
 unfold slices_swapRangeCmpFunc_int__impl_Allocate_1 at h
 refine enterMQ [.v (.slice a0_0 x0.length c0_0), vi x1, vi x2, vi x3, .v (.func (.func 35) #[] #[.pointer (some ⟨g4_0, 0, none⟩), .pointer (some ⟨g4_1, 0, none⟩), .pointer (some ⟨g4_2, 0, none⟩)])] (args := [.slice a0_0 x0.length c0_0, .int .i64 x1, .int .i64 x2, .int .i64 x3, .func (.func 35) #[] #[.pointer (some ⟨g4_0, 0, none⟩), .pointer (some ⟨g4_1, 0, none⟩), .pointer (some ⟨g4_2, 0, none⟩)]]) (by kernel_rfl) (by kernel_rfl) Try.func46 rfl Try.ntmps46 (by kernel_rfl) (fun Fs hq => ?_)
 refine qs (qr (oN 1 [(10, vi 0)] [0, 1, 2, 3, 4] ?_))
 refine oe (nt ?_)
 obtain ⟨r24, hL25, h26⟩ := bS h
 obtain ⟨k27, hk28, h26⟩ := brkS h26
 refine JC_cutP (τ := ((List Int)) × (Unit)) (fun y => k27 y.1 = some r) (fun y32 => [(0, .v (.slice a0_0 y32.1.length c0_0)), (4, .v (.func (.func 35) #[] #[.pointer (some ⟨g4_0, 0, none⟩), .pointer (some ⟨g4_1, 0, none⟩), .pointer (some ⟨g4_2, 0, none⟩)]))]) (fun y32 => []) (fun y32 => [SlRes e0_0 y32.1 a0_0 c0_0]) ?_ (fun y32 h33p => ?_)
 · refine qb (lp Unit hL25 (fun s21 y22 => [(10, vi s21.1), (0, .v (.slice a0_0 s21.2.length c0_0)), (1, vi x1), (2, vi x2), (3, vi x3), (4, .v (.func (.func 35) #[] #[.pointer (some ⟨g4_0, 0, none⟩), .pointer (some ⟨g4_1, 0, none⟩), .pointer (some ⟨g4_2, 0, none⟩)]))]) (fun s21 y22 => []) (fun s21 y22 => [SlRes e0_0 s21.2 a0_0 c0_0]) () [10, 0, 1, 2, 3, 4] [0] 0 (fun s21 y22 t23 h29 hd30 => ?_))
   refine qs (qs (qr (oN 3 [(13, vb (decide (s21.1 < x3)))] [10, 0, 1, 2, 3, 4] ?_)))
   refine oe (nt (cC h29 (fun h35 => ?_) (fun h36 => ?_)))
   · refine qk (nt (qs (qb ?_)))
     obtain ⟨x37, hx38, h39⟩ := bS h35
     obtain ⟨x40, hx41, h42⟩ := bS h39
     obtain ⟨x43, hx44, h45⟩ := bS h42
     obtain ⟨l46, hm47, h48⟩ := bS h45
     replace hm47 := (sI hm47).symm
     have hl49 := len_set hm47
     obtain ⟨x50, hx51, h52⟩ := bS h48
     obtain ⟨l53, hm54, h55⟩ := bS h52
     replace hm54 := (sI hm54).symm
     have hl56 := len_set hm54
     refine JC_cut (τ := Unit) (fun _ => [(10, vi s21.1), (0, .v (.slice a0_0 l53.length c0_0)), (1, vi x1), (2, vi x2), (3, vi x3), (4, .v (.func (.func 35) #[] #[.pointer (some ⟨g4_0, 0, none⟩), .pointer (some ⟨g4_1, 0, none⟩), .pointer (some ⟨g4_2, 0, none⟩)]))]) (fun _ => []) (fun _ => [SlRes e0_0 l53 a0_0 c0_0]) ?_ (fun _ => ?_)
     · refine jw [10, 0, 1, 2, 3, 4] [0] ?_
       refine JC_heldN (ks := []) (Rk := []) 24 (by kernel_rfl) (by kernel_rfl) ?_
       refine htq 0 (.v (.slice a0_0 s21.2.length c0_0)) [] ?_
       refine htq 1 (vi x1) [] ?_
       refine htq 2 (vi s21.1) [] ?_
       refine htq 3 (vi (w64 (x1 + s21.1))) [] ?_
       refine hk [19, 16, 10, 0, 1, 2, 3, 4] ?_
       refine htq 4 (.v (.slice a0_0 s21.2.length c0_0)) [] ?_
       refine htq 5 (vi x2) [] ?_
       refine htq 6 (vi s21.1) [] ?_
       refine htq 7 (vi (w64 (x2 + s21.1))) [] ?_
       refine hk [23, 20, 19, 16, 10, 0, 1, 2, 3, 4] ?_
       refine htq 8 (.v (.slice a0_0 s21.2.length c0_0)) [] ?_
       refine htq 9 (vi x2) [] ?_
       refine htq 10 (vi s21.1) [] ?_
       refine htq 11 (vi (w64 (x2 + s21.1))) [] ?_
       refine hk [27, 24, 23, 20, 19, 16, 10, 0, 1, 2, 3, 4] ?_
       refine htq 14 (.v (.slice a0_0 s21.2.length c0_0)) [] ?_
       refine htq 15 (vi x1) [] ?_
       refine htq 16 (vi s21.1) [] ?_
       refine htq 17 (vi (w64 (x1 + s21.1))) [] ?_
       refine hk [33, 30, 27, 24, 23, 20, 19, 16, 10, 0, 1, 2, 3, 4] ?_
       refine ha2 12 18 ?_ ?_
       · refine hi (fun γ0 δ hm => ?_)
         refine JG_index (by kernel_rfl) (d := a0_0) (m := s21.2.length) (j := (w64 (x2 + s21.1))) (s := 1) (by kernel_rfl) (fun w hs => (hs.view 0 rfl)) rfl hx38 rfl ?_
         refine gn hm [28, 33, 30, 23, 20, 19, 16, 10, 0, 1, 2, 3, 4] [] ?_
         refine ha2 13 18 ?_ ?_
         · refine hi (fun γ0 δ hm => ?_)
           refine JG_loadq (by kernel_rfl) (t := 3) (d := a0_0) (Int.toNat (w64 (x2 + s21.1)) * 1) 0 (by kernel_rfl) (cs := [.int .i64 x37]) (v := .int .i64 x37) (fun w hs => (hs.view 0 rfl).flatq hx38) (by kernel_rfl) rfl ?_
           refine gn hm [29, 33, 30, 23, 20, 19, 16, 10, 0, 1, 2, 3, 4] [] ?_
           refine ha1 18 ?_
           refine hi (fun γ0 δ hm => ?_)
           refine JG_index (by kernel_rfl) (d := a0_0) (m := s21.2.length) (j := (w64 (x1 + s21.1))) (s := 1) (by kernel_rfl) (fun w hs => (hs.view 0 rfl)) rfl hx41 rfl ?_
           refine gn hm [34, 29, 23, 20, 19, 16, 10, 0, 1, 2, 3, 4] [] ?_
           refine ha1 19 ?_
           refine hi (fun γ0 δ hm => ?_)
           refine JG_loadq (by kernel_rfl) (t := 3) (d := a0_0) (Int.toNat (w64 (x1 + s21.1)) * 1) 0 (by kernel_rfl) (cs := [.int .i64 x40]) (v := .int .i64 x40) (fun w hs => (hs.view 0 rfl).flatq hx41) (by kernel_rfl) rfl ?_
           refine gn hm [35, 29, 23, 20, 19, 16, 10, 0, 1, 2, 3, 4] [] ?_
           refine ha1 20 ?_
           refine hi (fun γ0 δ hm => ?_)
           refine JG_index (by kernel_rfl) (d := a0_0) (m := s21.2.length) (j := (w64 (x1 + s21.1))) (s := 1) (by kernel_rfl) (fun w hs => (hs.view 0 rfl)) rfl hx44 rfl ?_
           refine gn hm [36, 35, 29, 23, 20, 10, 0, 1, 2, 3, 4] [] ?_
           refine ha1 21 ?_
           refine hi (fun γ0 δ hm => ?_)
           refine JG_storeq (α := Int) (d := a0_0) (vs := [.int .i64 x37]) (j := (w64 (x1 + s21.1))) (x' := x37) (by kernel_rfl) 0 (by kernel_rfl) hx44 (Rc := []) (Rr := []) rfl (by kernel_rfl) (fun w c F Fs ho _ _ => own_flat_set (by kernel_rfl) ho) hm47 (sl' := [(36, .q a0_0 (Int.toNat (w64 (x1 + s21.1)) * 1)), (35, vi x40), (29, vi x37), (23, vi (w64 (x2 + s21.1))), (20, .v (.slice a0_0 s21.2.length c0_0)), (10, vi s21.1), (0, .v (.slice a0_0 s21.2.length c0_0)), (1, vi x1), (2, vi x2), (3, vi x3), (4, .v (.func (.func 35) #[] #[.pointer (some ⟨g4_0, 0, none⟩), .pointer (some ⟨g4_1, 0, none⟩), .pointer (some ⟨g4_2, 0, none⟩)]))]) (by kernel_rfl) ?_
           refine KG_eqE (sl' := [(36, .q a0_0 (Int.toNat (w64 (x1 + s21.1)) * 1)), (35, vi x40), (29, vi x37), (23, vi (w64 (x2 + s21.1))), (20, .v (.slice a0_0 l46.length c0_0)), (10, vi s21.1), (0, .v (.slice a0_0 l46.length c0_0)), (1, vi x1), (2, vi x2), (3, vi x3), (4, .v (.func (.func 35) #[] #[.pointer (some ⟨g4_0, 0, none⟩), .pointer (some ⟨g4_1, 0, none⟩), .pointer (some ⟨g4_2, 0, none⟩)]))]) (bx' := []) (by simp only [hl49]) rfl ?_
           refine gn hm [35, 23, 20, 10, 0, 1, 2, 3, 4] [] ?_
           refine ha1 22 ?_
           refine hi (fun γ0 δ hm => ?_)
           refine JG_index (by kernel_rfl) (d := a0_0) (m := l46.length) (j := (w64 (x2 + s21.1))) (s := 1) (by kernel_rfl) (fun w hs => (hs.view 0 rfl)) rfl hx51 rfl ?_
           refine gn hm [37, 35, 10, 0, 1, 2, 3, 4] [] ?_
           refine ha1 23 ?_
           refine hi (fun γ0 δ hm => ?_)
           refine JG_storeq (α := Int) (d := a0_0) (vs := [.int .i64 x40]) (j := (w64 (x2 + s21.1))) (x' := x40) (by kernel_rfl) 0 (by kernel_rfl) hx51 (Rc := []) (Rr := []) rfl (by kernel_rfl) (fun w c F Fs ho _ _ => own_flat_set (by kernel_rfl) ho) hm54 (sl' := [(37, .q a0_0 (Int.toNat (w64 (x2 + s21.1)) * 1)), (35, vi x40), (10, vi s21.1), (0, .v (.slice a0_0 l46.length c0_0)), (1, vi x1), (2, vi x2), (3, vi x3), (4, .v (.func (.func 35) #[] #[.pointer (some ⟨g4_0, 0, none⟩), .pointer (some ⟨g4_1, 0, none⟩), .pointer (some ⟨g4_2, 0, none⟩)]))]) (by kernel_rfl) ?_
           refine KG_eqE (sl' := [(37, .q a0_0 (Int.toNat (w64 (x2 + s21.1)) * 1)), (35, vi x40), (10, vi s21.1), (0, .v (.slice a0_0 l53.length c0_0)), (1, vi x1), (2, vi x2), (3, vi x3), (4, .v (.func (.func 35) #[] #[.pointer (some ⟨g4_0, 0, none⟩), .pointer (some ⟨g4_1, 0, none⟩), .pointer (some ⟨g4_2, 0, none⟩)]))]) (bx' := []) (by simp only [hl56]) rfl ?_
           refine gn hm [10, 0, 1, 2, 3, 4] [] ?_
           exact hd () [10, 0, 1, 2, 3, 4] [0] 0
         · refine hi (fun γ0 δ hm => ?_)
           refine JG_index (by kernel_rfl) (d := a0_0) (m := s21.2.length) (j := (w64 (x1 + s21.1))) (s := 1) (by kernel_rfl) (fun w hs => (hs.view 0 rfl)) rfl hx41 rfl ?_
           refine gn hm [34, 28, 23, 20, 19, 16, 10, 0, 1, 2, 3, 4] [] ?_
           refine ha2 13 19 ?_ ?_
           · refine hi (fun γ0 δ hm => ?_)
             refine JG_loadq (by kernel_rfl) (t := 3) (d := a0_0) (Int.toNat (w64 (x2 + s21.1)) * 1) 0 (by kernel_rfl) (cs := [.int .i64 x37]) (v := .int .i64 x37) (fun w hs => (hs.view 0 rfl).flatq hx38) (by kernel_rfl) rfl ?_
             refine gn hm [29, 34, 23, 20, 19, 16, 10, 0, 1, 2, 3, 4] [] ?_
             refine ha1 19 ?_
             refine hi (fun γ0 δ hm => ?_)
             refine JG_loadq (by kernel_rfl) (t := 3) (d := a0_0) (Int.toNat (w64 (x1 + s21.1)) * 1) 0 (by kernel_rfl) (cs := [.int .i64 x40]) (v := .int .i64 x40) (fun w hs => (hs.view 0 rfl).flatq hx41) (by kernel_rfl) rfl ?_
             refine gn hm [35, 29, 23, 20, 19, 16, 10, 0, 1, 2, 3, 4] [] ?_
             refine ha1 20 ?_
             refine hi (fun γ0 δ hm => ?_)
             refine JG_index (by kernel_rfl) (d := a0_0) (m := s21.2.length) (j := (w64 (x1 + s21.1))) (s := 1) (by kernel_rfl) (fun w hs => (hs.view 0 rfl)) rfl hx44 rfl ?_
             refine gn hm [36, 35, 29, 23, 20, 10, 0, 1, 2, 3, 4] [] ?_
             refine ha1 21 ?_
             refine hi (fun γ0 δ hm => ?_)
             refine JG_storeq (α := Int) (d := a0_0) (vs := [.int .i64 x37]) (j := (w64 (x1 + s21.1))) (x' := x37) (by kernel_rfl) 0 (by kernel_rfl) hx44 (Rc := []) (Rr := []) rfl (by kernel_rfl) (fun w c F Fs ho _ _ => own_flat_set (by kernel_rfl) ho) hm47 (sl' := [(36, .q a0_0 (Int.toNat (w64 (x1 + s21.1)) * 1)), (35, vi x40), (29, vi x37), (23, vi (w64 (x2 + s21.1))), (20, .v (.slice a0_0 s21.2.length c0_0)), (10, vi s21.1), (0, .v (.slice a0_0 s21.2.length c0_0)), (1, vi x1), (2, vi x2), (3, vi x3), (4, .v (.func (.func 35) #[] #[.pointer (some ⟨g4_0, 0, none⟩), .pointer (some ⟨g4_1, 0, none⟩), .pointer (some ⟨g4_2, 0, none⟩)]))]) (by kernel_rfl) ?_
             refine KG_eqE (sl' := [(36, .q a0_0 (Int.toNat (w64 (x1 + s21.1)) * 1)), (35, vi x40), (29, vi x37), (23, vi (w64 (x2 + s21.1))), (20, .v (.slice a0_0 l46.length c0_0)), (10, vi s21.1), (0, .v (.slice a0_0 l46.length c0_0)), (1, vi x1), (2, vi x2), (3, vi x3), (4, .v (.func (.func 35) #[] #[.pointer (some ⟨g4_0, 0, none⟩), .pointer (some ⟨g4_1, 0, none⟩), .pointer (some ⟨g4_2, 0, none⟩)]))]) (bx' := []) (by simp only [hl49]) rfl ?_
             refine gn hm [35, 23, 20, 10, 0, 1, 2, 3, 4] [] ?_
             refine ha1 22 ?_
             refine hi (fun γ0 δ hm => ?_)
             refine JG_index (by kernel_rfl) (d := a0_0) (m := l46.length) (j := (w64 (x2 + s21.1))) (s := 1) (by kernel_rfl) (fun w hs => (hs.view 0 rfl)) rfl hx51 rfl ?_
             refine gn hm [37, 35, 10, 0, 1, 2, 3, 4] [] ?_
             refine ha1 23 ?_
             refine hi (fun γ0 δ hm => ?_)
             refine JG_storeq (α := Int) (d := a0_0) (vs := [.int .i64 x40]) (j := (w64 (x2 + s21.1))) (x' := x40) (by kernel_rfl) 0 (by kernel_rfl) hx51 (Rc := []) (Rr := []) rfl (by kernel_rfl) (fun w c F Fs ho _ _ => own_flat_set (by kernel_rfl) ho) hm54 (sl' := [(37, .q a0_0 (Int.toNat (w64 (x2 + s21.1)) * 1)), (35, vi x40), (10, vi s21.1), (0, .v (.slice a0_0 l46.length c0_0)), (1, vi x1), (2, vi x2), (3, vi x3), (4, .v (.func (.func 35) #[] #[.pointer (some ⟨g4_0, 0, none⟩), .pointer (some ⟨g4_1, 0, none⟩), .pointer (some ⟨g4_2, 0, none⟩)]))]) (by kernel_rfl) ?_
             refine KG_eqE (sl' := [(37, .q a0_0 (Int.toNat (w64 (x2 + s21.1)) * 1)), (35, vi x40), (10, vi s21.1), (0, .v (.slice a0_0 l53.length c0_0)), (1, vi x1), (2, vi x2), (3, vi x3), (4, .v (.func (.func 35) #[] #[.pointer (some ⟨g4_0, 0, none⟩), .pointer (some ⟨g4_1, 0, none⟩), .pointer (some ⟨g4_2, 0, none⟩)]))]) (bx' := []) (by simp only [hl56]) rfl ?_
             refine gn hm [10, 0, 1, 2, 3, 4] [] ?_
             exact hd () [10, 0, 1, 2, 3, 4] [0] 0
           · refine hi (fun γ0 δ hm => ?_)
             refine JG_loadq (by kernel_rfl) (t := 3) (d := a0_0) (Int.toNat (w64 (x1 + s21.1)) * 1) 0 (by kernel_rfl) (cs := [.int .i64 x40]) (v := .int .i64 x40) (fun w hs => (hs.view 0 rfl).flatq hx41) (by kernel_rfl) rfl ?_
             refine gn hm [35, 28, 23, 20, 19, 16, 10, 0, 1, 2, 3, 4] [] ?_
             refine ha1 13 ?_
             refine hi (fun γ0 δ hm => ?_)
             refine JG_loadq (by kernel_rfl) (t := 3) (d := a0_0) (Int.toNat (w64 (x2 + s21.1)) * 1) 0 (by kernel_rfl) (cs := [.int .i64 x37]) (v := .int .i64 x37) (fun w hs => (hs.view 0 rfl).flatq hx38) (by kernel_rfl) rfl ?_
             refine gn hm [29, 35, 23, 20, 19, 16, 10, 0, 1, 2, 3, 4] [] ?_
             refine ha1 20 ?_
             refine hi (fun γ0 δ hm => ?_)
             refine JG_index (by kernel_rfl) (d := a0_0) (m := s21.2.length) (j := (w64 (x1 + s21.1))) (s := 1) (by kernel_rfl) (fun w hs => (hs.view 0 rfl)) rfl hx44 rfl ?_
             refine gn hm [36, 29, 35, 23, 20, 10, 0, 1, 2, 3, 4] [] ?_
             refine ha1 21 ?_
             refine hi (fun γ0 δ hm => ?_)
             refine JG_storeq (α := Int) (d := a0_0) (vs := [.int .i64 x37]) (j := (w64 (x1 + s21.1))) (x' := x37) (by kernel_rfl) 0 (by kernel_rfl) hx44 (Rc := []) (Rr := []) rfl (by kernel_rfl) (fun w c F Fs ho _ _ => own_flat_set (by kernel_rfl) ho) hm47 (sl' := [(36, .q a0_0 (Int.toNat (w64 (x1 + s21.1)) * 1)), (29, vi x37), (35, vi x40), (23, vi (w64 (x2 + s21.1))), (20, .v (.slice a0_0 s21.2.length c0_0)), (10, vi s21.1), (0, .v (.slice a0_0 s21.2.length c0_0)), (1, vi x1), (2, vi x2), (3, vi x3), (4, .v (.func (.func 35) #[] #[.pointer (some ⟨g4_0, 0, none⟩), .pointer (some ⟨g4_1, 0, none⟩), .pointer (some ⟨g4_2, 0, none⟩)]))]) (by kernel_rfl) ?_
             refine KG_eqE (sl' := [(36, .q a0_0 (Int.toNat (w64 (x1 + s21.1)) * 1)), (29, vi x37), (35, vi x40), (23, vi (w64 (x2 + s21.1))), (20, .v (.slice a0_0 l46.length c0_0)), (10, vi s21.1), (0, .v (.slice a0_0 l46.length c0_0)), (1, vi x1), (2, vi x2), (3, vi x3), (4, .v (.func (.func 35) #[] #[.pointer (some ⟨g4_0, 0, none⟩), .pointer (some ⟨g4_1, 0, none⟩), .pointer (some ⟨g4_2, 0, none⟩)]))]) (bx' := []) (by simp only [hl49]) rfl ?_
             refine gn hm [35, 23, 20, 10, 0, 1, 2, 3, 4] [] ?_
             refine ha1 22 ?_
             refine hi (fun γ0 δ hm => ?_)
             refine JG_index (by kernel_rfl) (d := a0_0) (m := l46.length) (j := (w64 (x2 + s21.1))) (s := 1) (by kernel_rfl) (fun w hs => (hs.view 0 rfl)) rfl hx51 rfl ?_
             refine gn hm [37, 35, 10, 0, 1, 2, 3, 4] [] ?_
             refine ha1 23 ?_
             refine hi (fun γ0 δ hm => ?_)
             refine JG_storeq (α := Int) (d := a0_0) (vs := [.int .i64 x40]) (j := (w64 (x2 + s21.1))) (x' := x40) (by kernel_rfl) 0 (by kernel_rfl) hx51 (Rc := []) (Rr := []) rfl (by kernel_rfl) (fun w c F Fs ho _ _ => own_flat_set (by kernel_rfl) ho) hm54 (sl' := [(37, .q a0_0 (Int.toNat (w64 (x2 + s21.1)) * 1)), (35, vi x40), (10, vi s21.1), (0, .v (.slice a0_0 l46.length c0_0)), (1, vi x1), (2, vi x2), (3, vi x3), (4, .v (.func (.func 35) #[] #[.pointer (some ⟨g4_0, 0, none⟩), .pointer (some ⟨g4_1, 0, none⟩), .pointer (some ⟨g4_2, 0, none⟩)]))]) (by kernel_rfl) ?_
             refine KG_eqE (sl' := [(37, .q a0_0 (Int.toNat (w64 (x2 + s21.1)) * 1)), (35, vi x40), (10, vi s21.1), (0, .v (.slice a0_0 l53.length c0_0)), (1, vi x1), (2, vi x2), (3, vi x3), (4, .v (.func (.func 35) #[] #[.pointer (some ⟨g4_0, 0, none⟩), .pointer (some ⟨g4_1, 0, none⟩), .pointer (some ⟨g4_2, 0, none⟩)]))]) (bx' := []) (by simp only [hl56]) rfl ?_
             refine gn hm [10, 0, 1, 2, 3, 4] [] ?_
             exact hd () [10, 0, 1, 2, 3, 4] [0] 0
       · refine hi (fun γ0 δ hm => ?_)
         refine JG_index (by kernel_rfl) (d := a0_0) (m := s21.2.length) (j := (w64 (x1 + s21.1))) (s := 1) (by kernel_rfl) (fun w hs => (hs.view 0 rfl)) rfl hx41 rfl ?_
         refine gn hm [34, 27, 24, 23, 20, 19, 16, 10, 0, 1, 2, 3, 4] [] ?_
         refine ha2 12 19 ?_ ?_
         · refine hi (fun γ0 δ hm => ?_)
           refine JG_index (by kernel_rfl) (d := a0_0) (m := s21.2.length) (j := (w64 (x2 + s21.1))) (s := 1) (by kernel_rfl) (fun w hs => (hs.view 0 rfl)) rfl hx38 rfl ?_
           refine gn hm [28, 34, 23, 20, 19, 16, 10, 0, 1, 2, 3, 4] [] ?_
           refine ha2 13 19 ?_ ?_
           · refine hi (fun γ0 δ hm => ?_)
             refine JG_loadq (by kernel_rfl) (t := 3) (d := a0_0) (Int.toNat (w64 (x2 + s21.1)) * 1) 0 (by kernel_rfl) (cs := [.int .i64 x37]) (v := .int .i64 x37) (fun w hs => (hs.view 0 rfl).flatq hx38) (by kernel_rfl) rfl ?_
             refine gn hm [29, 34, 23, 20, 19, 16, 10, 0, 1, 2, 3, 4] [] ?_
             refine ha1 19 ?_
             refine hi (fun γ0 δ hm => ?_)
             refine JG_loadq (by kernel_rfl) (t := 3) (d := a0_0) (Int.toNat (w64 (x1 + s21.1)) * 1) 0 (by kernel_rfl) (cs := [.int .i64 x40]) (v := .int .i64 x40) (fun w hs => (hs.view 0 rfl).flatq hx41) (by kernel_rfl) rfl ?_
             refine gn hm [35, 29, 23, 20, 19, 16, 10, 0, 1, 2, 3, 4] [] ?_
             refine ha1 20 ?_
             refine hi (fun γ0 δ hm => ?_)
             refine JG_index (by kernel_rfl) (d := a0_0) (m := s21.2.length) (j := (w64 (x1 + s21.1))) (s := 1) (by kernel_rfl) (fun w hs => (hs.view 0 rfl)) rfl hx44 rfl ?_
             refine gn hm [36, 35, 29, 23, 20, 10, 0, 1, 2, 3, 4] [] ?_
             refine ha1 21 ?_
             refine hi (fun γ0 δ hm => ?_)
             refine JG_storeq (α := Int) (d := a0_0) (vs := [.int .i64 x37]) (j := (w64 (x1 + s21.1))) (x' := x37) (by kernel_rfl) 0 (by kernel_rfl) hx44 (Rc := []) (Rr := []) rfl (by kernel_rfl) (fun w c F Fs ho _ _ => own_flat_set (by kernel_rfl) ho) hm47 (sl' := [(36, .q a0_0 (Int.toNat (w64 (x1 + s21.1)) * 1)), (35, vi x40), (29, vi x37), (23, vi (w64 (x2 + s21.1))), (20, .v (.slice a0_0 s21.2.length c0_0)), (10, vi s21.1), (0, .v (.slice a0_0 s21.2.length c0_0)), (1, vi x1), (2, vi x2), (3, vi x3), (4, .v (.func (.func 35) #[] #[.pointer (some ⟨g4_0, 0, none⟩), .pointer (some ⟨g4_1, 0, none⟩), .pointer (some ⟨g4_2, 0, none⟩)]))]) (by kernel_rfl) ?_
             refine KG_eqE (sl' := [(36, .q a0_0 (Int.toNat (w64 (x1 + s21.1)) * 1)), (35, vi x40), (29, vi x37), (23, vi (w64 (x2 + s21.1))), (20, .v (.slice a0_0 l46.length c0_0)), (10, vi s21.1), (0, .v (.slice a0_0 l46.length c0_0)), (1, vi x1), (2, vi x2), (3, vi x3), (4, .v (.func (.func 35) #[] #[.pointer (some ⟨g4_0, 0, none⟩), .pointer (some ⟨g4_1, 0, none⟩), .pointer (some ⟨g4_2, 0, none⟩)]))]) (bx' := []) (by simp only [hl49]) rfl ?_
             refine gn hm [35, 23, 20, 10, 0, 1, 2, 3, 4] [] ?_
             refine ha1 22 ?_
             refine hi (fun γ0 δ hm => ?_)
             refine JG_index (by kernel_rfl) (d := a0_0) (m := l46.length) (j := (w64 (x2 + s21.1))) (s := 1) (by kernel_rfl) (fun w hs => (hs.view 0 rfl)) rfl hx51 rfl ?_
             refine gn hm [37, 35, 10, 0, 1, 2, 3, 4] [] ?_
             refine ha1 23 ?_
             refine hi (fun γ0 δ hm => ?_)
             refine JG_storeq (α := Int) (d := a0_0) (vs := [.int .i64 x40]) (j := (w64 (x2 + s21.1))) (x' := x40) (by kernel_rfl) 0 (by kernel_rfl) hx51 (Rc := []) (Rr := []) rfl (by kernel_rfl) (fun w c F Fs ho _ _ => own_flat_set (by kernel_rfl) ho) hm54 (sl' := [(37, .q a0_0 (Int.toNat (w64 (x2 + s21.1)) * 1)), (35, vi x40), (10, vi s21.1), (0, .v (.slice a0_0 l46.length c0_0)), (1, vi x1), (2, vi x2), (3, vi x3), (4, .v (.func (.func 35) #[] #[.pointer (some ⟨g4_0, 0, none⟩), .pointer (some ⟨g4_1, 0, none⟩), .pointer (some ⟨g4_2, 0, none⟩)]))]) (by kernel_rfl) ?_
             refine KG_eqE (sl' := [(37, .q a0_0 (Int.toNat (w64 (x2 + s21.1)) * 1)), (35, vi x40), (10, vi s21.1), (0, .v (.slice a0_0 l53.length c0_0)), (1, vi x1), (2, vi x2), (3, vi x3), (4, .v (.func (.func 35) #[] #[.pointer (some ⟨g4_0, 0, none⟩), .pointer (some ⟨g4_1, 0, none⟩), .pointer (some ⟨g4_2, 0, none⟩)]))]) (bx' := []) (by simp only [hl56]) rfl ?_
             refine gn hm [10, 0, 1, 2, 3, 4] [] ?_
             exact hd () [10, 0, 1, 2, 3, 4] [0] 0
           · refine hi (fun γ0 δ hm => ?_)
             refine JG_loadq (by kernel_rfl) (t := 3) (d := a0_0) (Int.toNat (w64 (x1 + s21.1)) * 1) 0 (by kernel_rfl) (cs := [.int .i64 x40]) (v := .int .i64 x40) (fun w hs => (hs.view 0 rfl).flatq hx41) (by kernel_rfl) rfl ?_
             refine gn hm [35, 28, 23, 20, 19, 16, 10, 0, 1, 2, 3, 4] [] ?_
             refine ha1 13 ?_
             refine hi (fun γ0 δ hm => ?_)
             refine JG_loadq (by kernel_rfl) (t := 3) (d := a0_0) (Int.toNat (w64 (x2 + s21.1)) * 1) 0 (by kernel_rfl) (cs := [.int .i64 x37]) (v := .int .i64 x37) (fun w hs => (hs.view 0 rfl).flatq hx38) (by kernel_rfl) rfl ?_
             refine gn hm [29, 35, 23, 20, 19, 16, 10, 0, 1, 2, 3, 4] [] ?_
             refine ha1 20 ?_
             refine hi (fun γ0 δ hm => ?_)
             refine JG_index (by kernel_rfl) (d := a0_0) (m := s21.2.length) (j := (w64 (x1 + s21.1))) (s := 1) (by kernel_rfl) (fun w hs => (hs.view 0 rfl)) rfl hx44 rfl ?_
             refine gn hm [36, 29, 35, 23, 20, 10, 0, 1, 2, 3, 4] [] ?_
             refine ha1 21 ?_
             refine hi (fun γ0 δ hm => ?_)
             refine JG_storeq (α := Int) (d := a0_0) (vs := [.int .i64 x37]) (j := (w64 (x1 + s21.1))) (x' := x37) (by kernel_rfl) 0 (by kernel_rfl) hx44 (Rc := []) (Rr := []) rfl (by kernel_rfl) (fun w c F Fs ho _ _ => own_flat_set (by kernel_rfl) ho) hm47 (sl' := [(36, .q a0_0 (Int.toNat (w64 (x1 + s21.1)) * 1)), (29, vi x37), (35, vi x40), (23, vi (w64 (x2 + s21.1))), (20, .v (.slice a0_0 s21.2.length c0_0)), (10, vi s21.1), (0, .v (.slice a0_0 s21.2.length c0_0)), (1, vi x1), (2, vi x2), (3, vi x3), (4, .v (.func (.func 35) #[] #[.pointer (some ⟨g4_0, 0, none⟩), .pointer (some ⟨g4_1, 0, none⟩), .pointer (some ⟨g4_2, 0, none⟩)]))]) (by kernel_rfl) ?_
             refine KG_eqE (sl' := [(36, .q a0_0 (Int.toNat (w64 (x1 + s21.1)) * 1)), (29, vi x37), (35, vi x40), (23, vi (w64 (x2 + s21.1))), (20, .v (.slice a0_0 l46.length c0_0)), (10, vi s21.1), (0, .v (.slice a0_0 l46.length c0_0)), (1, vi x1), (2, vi x2), (3, vi x3), (4, .v (.func (.func 35) #[] #[.pointer (some ⟨g4_0, 0, none⟩), .pointer (some ⟨g4_1, 0, none⟩), .pointer (some ⟨g4_2, 0, none⟩)]))]) (bx' := []) (by simp only [hl49]) rfl ?_
             refine gn hm [35, 23, 20, 10, 0, 1, 2, 3, 4] [] ?_
             refine ha1 22 ?_
             refine hi (fun γ0 δ hm => ?_)
             refine JG_index (by kernel_rfl) (d := a0_0) (m := l46.length) (j := (w64 (x2 + s21.1))) (s := 1) (by kernel_rfl) (fun w hs => (hs.view 0 rfl)) rfl hx51 rfl ?_
             refine gn hm [37, 35, 10, 0, 1, 2, 3, 4] [] ?_
             refine ha1 23 ?_
             refine hi (fun γ0 δ hm => ?_)
             refine JG_storeq (α := Int) (d := a0_0) (vs := [.int .i64 x40]) (j := (w64 (x2 + s21.1))) (x' := x40) (by kernel_rfl) 0 (by kernel_rfl) hx51 (Rc := []) (Rr := []) rfl (by kernel_rfl) (fun w c F Fs ho _ _ => own_flat_set (by kernel_rfl) ho) hm54 (sl' := [(37, .q a0_0 (Int.toNat (w64 (x2 + s21.1)) * 1)), (35, vi x40), (10, vi s21.1), (0, .v (.slice a0_0 l46.length c0_0)), (1, vi x1), (2, vi x2), (3, vi x3), (4, .v (.func (.func 35) #[] #[.pointer (some ⟨g4_0, 0, none⟩), .pointer (some ⟨g4_1, 0, none⟩), .pointer (some ⟨g4_2, 0, none⟩)]))]) (by kernel_rfl) ?_
             refine KG_eqE (sl' := [(37, .q a0_0 (Int.toNat (w64 (x2 + s21.1)) * 1)), (35, vi x40), (10, vi s21.1), (0, .v (.slice a0_0 l53.length c0_0)), (1, vi x1), (2, vi x2), (3, vi x3), (4, .v (.func (.func 35) #[] #[.pointer (some ⟨g4_0, 0, none⟩), .pointer (some ⟨g4_1, 0, none⟩), .pointer (some ⟨g4_2, 0, none⟩)]))]) (bx' := []) (by simp only [hl56]) rfl ?_
             refine gn hm [10, 0, 1, 2, 3, 4] [] ?_
             exact hd () [10, 0, 1, 2, 3, 4] [0] 0
         · refine hi (fun γ0 δ hm => ?_)
           refine JG_loadq (by kernel_rfl) (t := 3) (d := a0_0) (Int.toNat (w64 (x1 + s21.1)) * 1) 0 (by kernel_rfl) (cs := [.int .i64 x40]) (v := .int .i64 x40) (fun w hs => (hs.view 0 rfl).flatq hx41) (by kernel_rfl) rfl ?_
           refine gn hm [35, 27, 24, 23, 20, 19, 16, 10, 0, 1, 2, 3, 4] [] ?_
           refine ha1 12 ?_
           refine hi (fun γ0 δ hm => ?_)
           refine JG_index (by kernel_rfl) (d := a0_0) (m := s21.2.length) (j := (w64 (x2 + s21.1))) (s := 1) (by kernel_rfl) (fun w hs => (hs.view 0 rfl)) rfl hx38 rfl ?_
           refine gn hm [28, 35, 23, 20, 19, 16, 10, 0, 1, 2, 3, 4] [] ?_
           refine ha1 13 ?_
           refine hi (fun γ0 δ hm => ?_)
           refine JG_loadq (by kernel_rfl) (t := 3) (d := a0_0) (Int.toNat (w64 (x2 + s21.1)) * 1) 0 (by kernel_rfl) (cs := [.int .i64 x37]) (v := .int .i64 x37) (fun w hs => (hs.view 0 rfl).flatq hx38) (by kernel_rfl) rfl ?_
           refine gn hm [29, 35, 23, 20, 19, 16, 10, 0, 1, 2, 3, 4] [] ?_
           refine ha1 20 ?_
           refine hi (fun γ0 δ hm => ?_)
           refine JG_index (by kernel_rfl) (d := a0_0) (m := s21.2.length) (j := (w64 (x1 + s21.1))) (s := 1) (by kernel_rfl) (fun w hs => (hs.view 0 rfl)) rfl hx44 rfl ?_
           refine gn hm [36, 29, 35, 23, 20, 10, 0, 1, 2, 3, 4] [] ?_
           refine ha1 21 ?_
           refine hi (fun γ0 δ hm => ?_)
           refine JG_storeq (α := Int) (d := a0_0) (vs := [.int .i64 x37]) (j := (w64 (x1 + s21.1))) (x' := x37) (by kernel_rfl) 0 (by kernel_rfl) hx44 (Rc := []) (Rr := []) rfl (by kernel_rfl) (fun w c F Fs ho _ _ => own_flat_set (by kernel_rfl) ho) hm47 (sl' := [(36, .q a0_0 (Int.toNat (w64 (x1 + s21.1)) * 1)), (29, vi x37), (35, vi x40), (23, vi (w64 (x2 + s21.1))), (20, .v (.slice a0_0 s21.2.length c0_0)), (10, vi s21.1), (0, .v (.slice a0_0 s21.2.length c0_0)), (1, vi x1), (2, vi x2), (3, vi x3), (4, .v (.func (.func 35) #[] #[.pointer (some ⟨g4_0, 0, none⟩), .pointer (some ⟨g4_1, 0, none⟩), .pointer (some ⟨g4_2, 0, none⟩)]))]) (by kernel_rfl) ?_
           refine KG_eqE (sl' := [(36, .q a0_0 (Int.toNat (w64 (x1 + s21.1)) * 1)), (29, vi x37), (35, vi x40), (23, vi (w64 (x2 + s21.1))), (20, .v (.slice a0_0 l46.length c0_0)), (10, vi s21.1), (0, .v (.slice a0_0 l46.length c0_0)), (1, vi x1), (2, vi x2), (3, vi x3), (4, .v (.func (.func 35) #[] #[.pointer (some ⟨g4_0, 0, none⟩), .pointer (some ⟨g4_1, 0, none⟩), .pointer (some ⟨g4_2, 0, none⟩)]))]) (bx' := []) (by simp only [hl49]) rfl ?_
           refine gn hm [35, 23, 20, 10, 0, 1, 2, 3, 4] [] ?_
           refine ha1 22 ?_
           refine hi (fun γ0 δ hm => ?_)
           refine JG_index (by kernel_rfl) (d := a0_0) (m := l46.length) (j := (w64 (x2 + s21.1))) (s := 1) (by kernel_rfl) (fun w hs => (hs.view 0 rfl)) rfl hx51 rfl ?_
           refine gn hm [37, 35, 10, 0, 1, 2, 3, 4] [] ?_
           refine ha1 23 ?_
           refine hi (fun γ0 δ hm => ?_)
           refine JG_storeq (α := Int) (d := a0_0) (vs := [.int .i64 x40]) (j := (w64 (x2 + s21.1))) (x' := x40) (by kernel_rfl) 0 (by kernel_rfl) hx51 (Rc := []) (Rr := []) rfl (by kernel_rfl) (fun w c F Fs ho _ _ => own_flat_set (by kernel_rfl) ho) hm54 (sl' := [(37, .q a0_0 (Int.toNat (w64 (x2 + s21.1)) * 1)), (35, vi x40), (10, vi s21.1), (0, .v (.slice a0_0 l46.length c0_0)), (1, vi x1), (2, vi x2), (3, vi x3), (4, .v (.func (.func 35) #[] #[.pointer (some ⟨g4_0, 0, none⟩), .pointer (some ⟨g4_1, 0, none⟩), .pointer (some ⟨g4_2, 0, none⟩)]))]) (by kernel_rfl) ?_
           refine KG_eqE (sl' := [(37, .q a0_0 (Int.toNat (w64 (x2 + s21.1)) * 1)), (35, vi x40), (10, vi s21.1), (0, .v (.slice a0_0 l53.length c0_0)), (1, vi x1), (2, vi x2), (3, vi x3), (4, .v (.func (.func 35) #[] #[.pointer (some ⟨g4_0, 0, none⟩), .pointer (some ⟨g4_1, 0, none⟩), .pointer (some ⟨g4_2, 0, none⟩)]))]) (bx' := []) (by simp only [hl56]) rfl ?_
           refine gn hm [10, 0, 1, 2, 3, 4] [] ?_
           exact hd () [10, 0, 1, 2, 3, 4] [0] 0
     refine bn (nt (qr (oN 3 [(10, vi (w64 (s21.1 + 1)))] [0, 1, 2, 3, 4] ?_)))
     exact oe (ct h55 () [10, 0, 1, 2, 3, 4] [0] 0)
   refine qx (nx (nx (bh ?_)))
   have h58 := leafB hd30 h36 h26
   exact mp (s21.2, ()) h58 [0, 4] [0] 0
 have h33 := (congrFun hk28 _).symm.trans h33p
 refine JE_fall (vs := []) (by kernel_rfl) (fun γ w hs => ?_)
 rw [← sI h33]
 exact hs.turned (is := [0]) rfl

theorem c_slices_rotateCmpFunc_int__impl_Allocate_1 {W : World} {x0 : List Int} {a0_0 : Option Addr} {c0_0 : Nat} {e0_0 : TypeId} {x1 : Int} {x2 : Int} {x3 : Int} {g4_0 : Nat} {z4_0 : Int} {g4_1 : Nat} {z4_1 : List Int} {g4_2 : Nat} {z4_2 : Int} {r : (List Int)} (h : slices_rotateCmpFunc_int__impl_Allocate_1 x0 x1 x2 x3 z4_0 z4_1 z4_2 = some r)  :
    GivesMQ Try.prog (fun w => ∀ (q0 : Int) (q1 : Int) (r : Int), impl_Allocate_1 q0 q1 z4_0 z4_1 z4_2 = some r → Gives0 Try.prog 35 #[.int .i64 q0, .int .i64 q1, .pointer (some ⟨g4_0, 0, none⟩), .pointer (some ⟨g4_1, 0, none⟩), .pointer (some ⟨g4_2, 0, none⟩)] w (.int .i64 r)) 45 #[.slice a0_0 x0.length c0_0, .int .i64 x1, .int .i64 x2, .int .i64 x3, .func (.func 35) #[] #[.pointer (some ⟨g4_0, 0, none⟩), .pointer (some ⟨g4_1, 0, none⟩), .pointer (some ⟨g4_2, 0, none⟩)]] W [SlRes e0_0 x0 a0_0 c0_0] [SlRes e0_0 r a0_0 c0_0] (.tuple #[]) := by
 unfold slices_rotateCmpFunc_int__impl_Allocate_1 at h
 refine enterMQ [.v (.slice a0_0 x0.length c0_0), vi x1, vi x2, vi x3, .v (.func (.func 35) #[] #[.pointer (some ⟨g4_0, 0, none⟩), .pointer (some ⟨g4_1, 0, none⟩), .pointer (some ⟨g4_2, 0, none⟩)])] (args := [.slice a0_0 x0.length c0_0, .int .i64 x1, .int .i64 x2, .int .i64 x3, .func (.func 35) #[] #[.pointer (some ⟨g4_0, 0, none⟩), .pointer (some ⟨g4_1, 0, none⟩), .pointer (some ⟨g4_2, 0, none⟩)]]) (by kernel_rfl) (by kernel_rfl) Try.func45 rfl Try.ntmps45 (by kernel_rfl) (fun Fs hq => ?_)
 refine qs (qr (oN 4 [(10, vi (w64 (x2 - x1)))] [0, 2, 3, 4] ?_))
 refine oe (nt (qs (qr (oN 4 [(11, vi (w64 (x3 - x2)))] [10, 0, 2, 4] ?_))))
 refine oe (nt (qs ?_))
 obtain ⟨r24, hL25, h26⟩ := bS h
 obtain ⟨k27, hk28, h26⟩ := brkS h26
 refine JC_cutP (τ := (Int × (List Int) × Int) × (Unit)) (fun y => k27 y.1 = some r) (fun y32 => [(10, vi y32.1.1), (0, .v (.slice a0_0 y32.1.2.1.length c0_0)), (2, vi y32.1.2.2), (4, .v (.func (.func 35) #[] #[.pointer (some ⟨g4_0, 0, none⟩), .pointer (some ⟨g4_1, 0, none⟩), .pointer (some ⟨g4_2, 0, none⟩)]))]) (fun y32 => []) (fun y32 => [SlRes e0_0 y32.1.2.1 a0_0 c0_0]) ?_ (fun y32 h33p => ?_)
 · refine qb (lp Unit hL25 (fun s21 y22 => [(11, vi s21.1), (10, vi s21.2.1), (0, .v (.slice a0_0 s21.2.2.length c0_0)), (2, vi x2), (4, .v (.func (.func 35) #[] #[.pointer (some ⟨g4_0, 0, none⟩), .pointer (some ⟨g4_1, 0, none⟩), .pointer (some ⟨g4_2, 0, none⟩)]))]) (fun s21 y22 => []) (fun s21 y22 => [SlRes e0_0 s21.2.2 a0_0 c0_0]) () [11, 10, 0, 2, 4] [0] 0 (fun s21 y22 t23 h29 hd30 => ?_))
   refine qs (qs (qr (oN 3 [(20, vb (s21.2.1 != s21.1))] [11, 10, 0, 2, 4] ?_)))
   refine oe (nt (cC h29 (fun h43 => ?_) (fun h44 => ?_)))
   · refine qk (nt (qb (qs (qr (oN 3 [(23, vb (decide (s21.2.1 > s21.1)))] [11, 10, 0, 2, 4] ?_)))))
     refine oe (nt (cC h43 (fun h46 => ?_) (fun h47 => ?_)))
     · refine qs (qr (oN 7 [(30, .v (.func (.func 35) #[] #[.pointer (some ⟨g4_0, 0, none⟩), .pointer (some ⟨g4_1, 0, none⟩), .pointer (some ⟨g4_2, 0, none⟩)])), (29, vi s21.1), (28, vi x2), (27, vi (w64 (x2 - s21.2.1))), (24, .v (.slice a0_0 s21.2.2.length c0_0))] [11, 10, 0, 2, 4] ?_))
       obtain ⟨t48, h49, h50⟩ := bS h46
       obtain ⟨u52, hu53, h54⟩ := bS h50
       have hl55 := (sameLen_some hu53).symm
       refine JO_callMQ rfl (by kernel_rfl) (f := 46) (C := fun γ => (fun w => ∀ (q0 : Int) (q1 : Int) (r : Int), impl_Allocate_1 q0 q1 z4_0 z4_1 z4_2 = some r → Gives0 Try.prog 35 #[.int .i64 q0, .int .i64 q1, .pointer (some ⟨g4_0, 0, none⟩), .pointer (some ⟨g4_1, 0, none⟩), .pointer (some ⟨g4_2, 0, none⟩)] w (.int .i64 r))) (args := fun γ => #[.slice a0_0 s21.2.2.length c0_0, .int .i64 (w64 (x2 - s21.2.1)), .int .i64 x2, .int .i64 s21.1, .func (.func 35) #[] #[.pointer (some ⟨g4_0, 0, none⟩), .pointer (some ⟨g4_1, 0, none⟩), .pointer (some ⟨g4_2, 0, none⟩)]]) (fun γ => by kernel_rfl) (x := .tuple #[]) (Rin := [SlRes e0_0 s21.2.2 a0_0 c0_0]) (Rout := [SlRes e0_0 t48 a0_0 c0_0]) (Rr := []) rfl (fun γ w hs => (by have vv := c_slices_swapRangeCmpFunc_int__impl_Allocate_1 (e0_0 := e0_0) (a0_0 := a0_0) (c0_0 := c0_0) (g4_0 := g4_0) (g4_1 := g4_1) (g4_2 := g4_2) (W := w) h49; exact vv)) (fun γ w hk hb => hq w hk) (sl' := [(31, .v (.tuple #[])), (30, .v (.func (.func 35) #[] #[.pointer (some ⟨g4_0, 0, none⟩), .pointer (some ⟨g4_1, 0, none⟩), .pointer (some ⟨g4_2, 0, none⟩)])), (29, vi s21.1), (28, vi x2), (27, vi (w64 (x2 - s21.2.1))), (24, .v (.slice a0_0 s21.2.2.length c0_0)), (11, vi s21.1), (10, vi s21.2.1), (0, .v (.slice a0_0 s21.2.2.length c0_0)), (2, vi x2), (4, .v (.func (.func 35) #[] #[.pointer (some ⟨g4_0, 0, none⟩), .pointer (some ⟨g4_1, 0, none⟩), .pointer (some ⟨g4_2, 0, none⟩)]))]) (by kernel_rfl) ?_
       refine JO_eqE (sl' := [(31, .v (.tuple #[])), (30, .v (.func (.func 35) #[] #[.pointer (some ⟨g4_0, 0, none⟩), .pointer (some ⟨g4_1, 0, none⟩), .pointer (some ⟨g4_2, 0, none⟩)])), (29, vi s21.1), (28, vi x2), (27, vi (w64 (x2 - s21.2.1))), (24, .v (.slice a0_0 t48.length c0_0)), (11, vi s21.1), (10, vi s21.2.1), (0, .v (.slice a0_0 t48.length c0_0)), (2, vi x2), (4, .v (.func (.func 35) #[] #[.pointer (some ⟨g4_0, 0, none⟩), .pointer (some ⟨g4_1, 0, none⟩), .pointer (some ⟨g4_2, 0, none⟩)]))]) (bx' := []) (by simp only [hl55]) rfl ?_
       refine oe (nt (qr (oN 4 [(10, vi (w64 (s21.2.1 - s21.1)))] [11, 0, 2, 4] ?_)))
       exact oe (bn (ct h54 () [11, 10, 0, 2, 4] [0] 0))
     refine qs (qr (oN 11 [(45, .v (.func (.func 35) #[] #[.pointer (some ⟨g4_0, 0, none⟩), .pointer (some ⟨g4_1, 0, none⟩), .pointer (some ⟨g4_2, 0, none⟩)])), (44, vi s21.2.1), (43, vi (w64 ((w64 (x2 + s21.1)) - s21.2.1))), (38, vi (w64 (x2 - s21.2.1))), (35, .v (.slice a0_0 s21.2.2.length c0_0))] [11, 10, 0, 2, 4] ?_))
     obtain ⟨t56, h57, h58⟩ := bS h47
     obtain ⟨u60, hu61, h62⟩ := bS h58
     have hl63 := (sameLen_some hu61).symm
     refine JO_callMQ rfl (by kernel_rfl) (f := 46) (C := fun γ => (fun w => ∀ (q0 : Int) (q1 : Int) (r : Int), impl_Allocate_1 q0 q1 z4_0 z4_1 z4_2 = some r → Gives0 Try.prog 35 #[.int .i64 q0, .int .i64 q1, .pointer (some ⟨g4_0, 0, none⟩), .pointer (some ⟨g4_1, 0, none⟩), .pointer (some ⟨g4_2, 0, none⟩)] w (.int .i64 r))) (args := fun γ => #[.slice a0_0 s21.2.2.length c0_0, .int .i64 (w64 (x2 - s21.2.1)), .int .i64 (w64 ((w64 (x2 + s21.1)) - s21.2.1)), .int .i64 s21.2.1, .func (.func 35) #[] #[.pointer (some ⟨g4_0, 0, none⟩), .pointer (some ⟨g4_1, 0, none⟩), .pointer (some ⟨g4_2, 0, none⟩)]]) (fun γ => by kernel_rfl) (x := .tuple #[]) (Rin := [SlRes e0_0 s21.2.2 a0_0 c0_0]) (Rout := [SlRes e0_0 t56 a0_0 c0_0]) (Rr := []) rfl (fun γ w hs => (by have vv := c_slices_swapRangeCmpFunc_int__impl_Allocate_1 (e0_0 := e0_0) (a0_0 := a0_0) (c0_0 := c0_0) (g4_0 := g4_0) (g4_1 := g4_1) (g4_2 := g4_2) (W := w) h57; exact vv)) (fun γ w hk hb => hq w hk) (sl' := [(46, .v (.tuple #[])), (45, .v (.func (.func 35) #[] #[.pointer (some ⟨g4_0, 0, none⟩), .pointer (some ⟨g4_1, 0, none⟩), .pointer (some ⟨g4_2, 0, none⟩)])), (44, vi s21.2.1), (43, vi (w64 ((w64 (x2 + s21.1)) - s21.2.1))), (38, vi (w64 (x2 - s21.2.1))), (35, .v (.slice a0_0 s21.2.2.length c0_0)), (11, vi s21.1), (10, vi s21.2.1), (0, .v (.slice a0_0 s21.2.2.length c0_0)), (2, vi x2), (4, .v (.func (.func 35) #[] #[.pointer (some ⟨g4_0, 0, none⟩), .pointer (some ⟨g4_1, 0, none⟩), .pointer (some ⟨g4_2, 0, none⟩)]))]) (by kernel_rfl) ?_
     refine JO_eqE (sl' := [(46, .v (.tuple #[])), (45, .v (.func (.func 35) #[] #[.pointer (some ⟨g4_0, 0, none⟩), .pointer (some ⟨g4_1, 0, none⟩), .pointer (some ⟨g4_2, 0, none⟩)])), (44, vi s21.2.1), (43, vi (w64 ((w64 (x2 + s21.1)) - s21.2.1))), (38, vi (w64 (x2 - s21.2.1))), (35, .v (.slice a0_0 t56.length c0_0)), (11, vi s21.1), (10, vi s21.2.1), (0, .v (.slice a0_0 t56.length c0_0)), (2, vi x2), (4, .v (.func (.func 35) #[] #[.pointer (some ⟨g4_0, 0, none⟩), .pointer (some ⟨g4_1, 0, none⟩), .pointer (some ⟨g4_2, 0, none⟩)]))]) (bx' := []) (by simp only [hl63]) rfl ?_
     refine oe (nt (qr (oN 4 [(11, vi (w64 (s21.1 - s21.2.1)))] [10, 0, 2, 4] ?_)))
     exact oe (bn (ct h62 () [11, 10, 0, 2, 4] [0] 0))
   refine qx (nx (nx (bh ?_)))
   have h64 := leafB hd30 h44 h26
   exact mp ((s21.2.1, s21.2.2, x2), ()) h64 [10, 0, 2, 4] [0] 0
 have h33 := (congrFun hk28 _).symm.trans h33p
 refine nt (qr (oN 7 [(56, .v (.func (.func 35) #[] #[.pointer (some ⟨g4_0, 0, none⟩), .pointer (some ⟨g4_1, 0, none⟩), .pointer (some ⟨g4_2, 0, none⟩)])), (55, vi y32.1.1), (54, vi y32.1.2.2), (53, vi (w64 (y32.1.2.2 - y32.1.1))), (50, .v (.slice a0_0 y32.1.2.1.length c0_0))] [0, 4] ?_))
 obtain ⟨t34, h35, h36⟩ := bS h33
 obtain ⟨u38, hu39, h40⟩ := bS h36
 have hl41 := (sameLen_some hu39).symm
 refine JO_callMQ rfl (by kernel_rfl) (f := 46) (C := fun γ => (fun w => ∀ (q0 : Int) (q1 : Int) (r : Int), impl_Allocate_1 q0 q1 z4_0 z4_1 z4_2 = some r → Gives0 Try.prog 35 #[.int .i64 q0, .int .i64 q1, .pointer (some ⟨g4_0, 0, none⟩), .pointer (some ⟨g4_1, 0, none⟩), .pointer (some ⟨g4_2, 0, none⟩)] w (.int .i64 r))) (args := fun γ => #[.slice a0_0 y32.1.2.1.length c0_0, .int .i64 (w64 (y32.1.2.2 - y32.1.1)), .int .i64 y32.1.2.2, .int .i64 y32.1.1, .func (.func 35) #[] #[.pointer (some ⟨g4_0, 0, none⟩), .pointer (some ⟨g4_1, 0, none⟩), .pointer (some ⟨g4_2, 0, none⟩)]]) (fun γ => by kernel_rfl) (x := .tuple #[]) (Rin := [SlRes e0_0 y32.1.2.1 a0_0 c0_0]) (Rout := [SlRes e0_0 t34 a0_0 c0_0]) (Rr := []) rfl (fun γ w hs => (by have vv := c_slices_swapRangeCmpFunc_int__impl_Allocate_1 (e0_0 := e0_0) (a0_0 := a0_0) (c0_0 := c0_0) (g4_0 := g4_0) (g4_1 := g4_1) (g4_2 := g4_2) (W := w) h35; exact vv)) (fun γ w hk hb => hq w hk) (sl' := [(57, .v (.tuple #[])), (56, .v (.func (.func 35) #[] #[.pointer (some ⟨g4_0, 0, none⟩), .pointer (some ⟨g4_1, 0, none⟩), .pointer (some ⟨g4_2, 0, none⟩)])), (55, vi y32.1.1), (54, vi y32.1.2.2), (53, vi (w64 (y32.1.2.2 - y32.1.1))), (50, .v (.slice a0_0 y32.1.2.1.length c0_0)), (0, .v (.slice a0_0 y32.1.2.1.length c0_0)), (4, .v (.func (.func 35) #[] #[.pointer (some ⟨g4_0, 0, none⟩), .pointer (some ⟨g4_1, 0, none⟩), .pointer (some ⟨g4_2, 0, none⟩)]))]) (by kernel_rfl) ?_
 refine JO_eqE (sl' := [(57, .v (.tuple #[])), (56, .v (.func (.func 35) #[] #[.pointer (some ⟨g4_0, 0, none⟩), .pointer (some ⟨g4_1, 0, none⟩), .pointer (some ⟨g4_2, 0, none⟩)])), (55, vi y32.1.1), (54, vi y32.1.2.2), (53, vi (w64 (y32.1.2.2 - y32.1.1))), (50, .v (.slice a0_0 t34.length c0_0)), (0, .v (.slice a0_0 t34.length c0_0)), (4, .v (.func (.func 35) #[] #[.pointer (some ⟨g4_0, 0, none⟩), .pointer (some ⟨g4_1, 0, none⟩), .pointer (some ⟨g4_2, 0, none⟩)]))]) (bx' := []) (by simp only [hl41]) rfl ?_
 refine oe (JE_fall (vs := []) (by kernel_rfl) (fun γ w hs => ?_))
 rw [← sI h40]
 exact hs.turned (is := [0]) rfl
end Go.Pen
