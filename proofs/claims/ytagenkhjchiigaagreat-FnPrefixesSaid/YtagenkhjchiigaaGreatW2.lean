/-
  Each Go function does what its plain function says: written by a program of ours.
-/
import Derived.Test.YtagenkhjchiigaaGreatW1
import Derived.Test.YtagenkhjchiigaaGreatProg
import Derived.Test.YtagenkhjchiigaaGreatPenK
import Derived.Test.YtagenkhjchiigaaGreatPenJ
import Derived.Test.YtagenkhjchiigaaGreatPenP
import Derived.Test.YtagenkhjchiigaaGreatPenQ
import Derived.Test.YtagenkhjchiigaaGreatPenU
namespace Go.Pen
open Go.Proofs Go.RowKit
set_option linter.unusedVariables false
set_option linter.unusedSimpArgs false
set_option maxRecDepth 100000
set_option maxHeartbeats 4000000

theorem c_spec_l38Act {W : World} {xb0 : List U8} {xi0 xh0 : Int} {p0 ca0 : Option Addr} {cc0 : Nat} {r : Act × Int × Int} (h : spec_l38Act xb0 xi0 xh0 = some r) (hv0_0 : SlView W xb0 ca0 cc0) :
    GivesC Tryz.prog 138 101 #[(SV.q p0 0).den []] W (CurD.mk xb0 xi0 xh0) p0 ca0 cc0 (CurD.mk xb0 r.2.1 r.2.2) (fun y : Unit => vAct r.1) (fun y => []) := by
 unfold spec_l38Act at h
 refine enterC [.q p0 0] (args := [(SV.q p0 0).den []]) hv0_0 (by kernel_rfl) (by kernel_rfl) Tryz.func101 rfl Tryz.ntmps101 (by kernel_rfl) (fun g hg hs0 => ?_)
 refine qs (qr (oB 1 [(2, .p 0 0)] [0] [(66, (eAct (Act.mk 0 (Fact.mk 0 0 0 0 0) (Point.mk 0 0 0) 0)))] ?_))
 refine oe (nt (qs (qs (qr (oN 1 [(4, .q p0 0)] [2, 0] ?_)))))
 obtain ⟨t21, h22, h23⟩ := bS h
 refine JO_callC rfl (by kernel_rfl) (f := 50) (args := fun γ => #[(SV.q p0 0).den [], .int .i64 5]) (fun γ => by kernel_rfl) (x0 := CurD.mk xb0 xi0 xh0) (x1 := CurD.mk xb0 t21.2.1 t21.2.2) (Rr := []) rfl hs0 (fun γ w hs => (by have vv := c_spec_l01Below (p0 := p0) (W := w) h22 (hs0.kept hs.kept); exact vv)) (fun (y24 : Unit) => [(5, vi t21.1), (4, .q p0 0), (2, .p 0 0), (0, .q p0 0)]) (fun y24 => by kernel_rfl) (fun y24 => ?_)
 refine oe (nt (qb (qs (qs (qr (oN 2 [(6, vb (t21.1 == 0))] [5, 2, 0] ?_))))))
 refine oe (nt ?_)
 obtain ⟨k28, hk29, h76⟩ := jS h23
 refine JC_cutP (τ := (Bool) × (Unit)) (fun y => k28 y.1 = some r) (fun y27 => [(6, vb y27.1), (5, vi t21.1), (2, .p 0 0), (0, .q p0 0)]) (fun y27 => [(66, (eAct (Act.mk 0 (Fact.mk 0 0 0 0 0) (Point.mk 0 0 0) 0)))]) (fun y27 => [CurRes 138 (CurD.mk xb0 t21.2.1 t21.2.2) p0 ca0 cc0]) ?_ (fun y27 h30p => ?_)
 · refine cC h76 (fun h78 => ?_) (fun h79 => ?_)
   · exact qk (mp (t21.1 == 0, ()) h78 [6, 5, 2, 0] [0] 1)
   refine qr (oN 2 [(6, vb (t21.1 == 1))] [5, 2, 0] ?_)
   exact oe (mp (t21.1 == 1, ()) h79 [6, 5, 2, 0] [0] 1)
 have h30 := (congrFun hk29 _).symm.trans h30p
 refine nt (cC h30 (fun h47 => ?_) (fun h48 => ?_))
 · refine qs (qr (oN 1 [(9, .q p0 0)] [2, 0] ?_))
   obtain ⟨t49, h50, h51⟩ := bS h47
   refine JO_callC rfl (by kernel_rfl) (f := 84) (args := fun γ => #[(SV.q p0 0).den [], .int .i64 0]) (fun γ => by kernel_rfl) (x0 := CurD.mk xb0 t21.2.1 t21.2.2) (x1 := CurD.mk xb0 t49.2.1 t49.2.2) (Rr := []) rfl hs0 (fun γ w hs => (by have vv := c_spec_l05Fact (p0 := p0) (W := w) h50 (hs0.kept hs.kept); exact vv)) (fun (y52 : Unit) => [(10, .v (vFact t49.1)), (9, .q p0 0), (2, .p 0 0), (0, .q p0 0)]) (fun y52 => by kernel_rfl) (fun y52 => ?_)
   refine oB 2 [(3, .p 1 0)] [2, 0] [(66, (eAct (Act.mk 0 (Fact.mk 0 0 0 0 0) (Point.mk 0 0 0) 0))), (47, (eFact t49.1))] ?_
   refine oe (nt (qs (qr (oB 2 [] [3, 2, 0] [(66, (eAct (Act.mk 0 (Fact.mk 0 0 0 0 0) (Point.mk 0 0 0) 0))), (47, (eFact (Fact.mk 1 t49.1.From t49.1.To t49.1.Known t49.1.Value)))] ?_))))
   refine oe (nt (qs (qr (oB 5 [] [3, 2, 0] [(66, (eAct (Act.mk 0 (Fact.mk 0 0 0 0 0) (Point.mk 0 0 0) 0))), (47, (eFact (Fact.mk 1 t49.1.From t49.1.To t49.1.Known (w64 (t49.1.Value + 150000)))))] ?_))))
   refine oe (nt (qs (qr (oB 3 [] [2, 0] [(66, (eAct (Act.mk 1 (Fact.mk 1 t49.1.From t49.1.To t49.1.Known (w64 (t49.1.Value + 150000))) (Point.mk 0 0 0) 0))), (47, (eFact (Fact.mk 1 t49.1.From t49.1.To t49.1.Known (w64 (t49.1.Value + 150000)))))] ?_))))
   refine oe (nt (qe (br (nr (rt [vAct (Act.mk 1 (Fact.mk 1 t49.1.From t49.1.To t49.1.Known (w64 (t49.1.Value + 150000))) (Point.mk 0 0 0) 0)] (fun γ w hs => ?_))))))
   rw [← sI h51]
   exact hs.curPost hg () (is := [0]) rfl
 refine qs (qr (oN 2 [(18, vb (t21.1 == 2))] [2, 0] ?_))
 refine oe (nt (cC h48 (fun h62 => ?_) (fun h63 => ?_)))
 · refine qs (qr (oN 1 [(20, .q p0 0)] [2, 0] ?_))
   obtain ⟨t64, h65, h66⟩ := bS h62
   refine JO_callC rfl (by kernel_rfl) (f := 50) (args := fun γ => #[(SV.q p0 0).den [], .int .i64 30]) (fun γ => by kernel_rfl) (x0 := CurD.mk xb0 t21.2.1 t21.2.2) (x1 := CurD.mk xb0 t64.2.1 t64.2.2) (Rr := []) rfl hs0 (fun γ w hs => (by have vv := c_spec_l01Below (p0 := p0) (W := w) h65 (hs0.kept hs.kept); exact vv)) (fun (y67 : Unit) => [(21, vi t64.1), (20, .q p0 0), (2, .p 0 0), (0, .q p0 0)]) (fun y67 => by kernel_rfl) (fun y67 => ?_)
   refine oN 1 [(22, .q p0 0)] [21, 2, 0] ?_
   obtain ⟨t68, h69, h70⟩ := bS h66
   refine JO_callC rfl (by kernel_rfl) (f := 50) (args := fun γ => #[(SV.q p0 0).den [], .int .i64 4000]) (fun γ => by kernel_rfl) (x0 := CurD.mk xb0 t64.2.1 t64.2.2) (x1 := CurD.mk xb0 t68.2.1 t68.2.2) (Rr := []) rfl hs0 (fun γ w hs => (by have vv := c_spec_l01Below (p0 := p0) (W := w) h69 (hs0.kept hs.kept); exact vv)) (fun (y71 : Unit) => [(23, vi t68.1), (22, .q p0 0), (21, vi t64.1), (2, .p 0 0), (0, .q p0 0)]) (fun y71 => by kernel_rfl) (fun y71 => ?_)
   refine oB 4 [] [2, 0] [(66, (eAct (Act.mk 2 (Fact.mk 0 0 0 0 0) (Point.mk t64.1 0 (w64 (9000 + t68.1))) 0)))] ?_
   refine oe (nt (qe (br (nr (rt [vAct (Act.mk 2 (Fact.mk 0 0 0 0 0) (Point.mk t64.1 0 (w64 (9000 + t68.1))) 0)] (fun γ w hs => ?_))))))
   rw [← sI h70]
   exact hs.curPost hg () (is := [0]) rfl
 refine qk (bn (nt (qs (qr (oN 1 [(27, .q p0 0)] [2, 0] ?_)))))
 obtain ⟨t72, h73, h74⟩ := bS h63
 refine JO_callC rfl (by kernel_rfl) (f := 50) (args := fun γ => #[(SV.q p0 0).den [], .int .i64 4]) (fun γ => by kernel_rfl) (x0 := CurD.mk xb0 t21.2.1 t21.2.2) (x1 := CurD.mk xb0 t72.2.1 t72.2.2) (Rr := []) rfl hs0 (fun γ w hs => (by have vv := c_spec_l01Below (p0 := p0) (W := w) h73 (hs0.kept hs.kept); exact vv)) (fun (y75 : Unit) => [(28, vi t72.1), (27, .q p0 0), (2, .p 0 0), (0, .q p0 0)]) (fun y75 => by kernel_rfl) (fun y75 => ?_)
 refine oB 3 [] [2, 0] [(66, (eAct (Act.mk 3 (Fact.mk 0 0 0 0 0) (Point.mk 0 0 0) (w64 (1 + t72.1)))))] ?_
 refine oe (nt (qe (rt [vAct (Act.mk 3 (Fact.mk 0 0 0 0 0) (Point.mk 0 0 0) (w64 (1 + t72.1)))] (fun γ w hs => ?_))))
 rw [← sI h74]
 exact hs.curPost hg () (is := [0]) rfl

theorem c_spec_l38Acts {W : World} {xb0 : List U8} {xi0 xh0 : Int} {p0 ca0 : Option Addr} {cc0 : Nat} {r : (List Act) × Int × Int} (h : spec_l38Acts xb0 xi0 xh0 = some r) (hv0_0 : SlView W xb0 ca0 cc0) :
    GivesC Tryz.prog 138 59 #[(SV.q p0 0).den []] W (CurD.mk xb0 xi0 xh0) p0 ca0 cc0 (CurD.mk xb0 r.2.1 r.2.2) (fun y : AC => .slice y.1 r.1.length y.2) (fun y => [SlRes 66 r.1 y.1 y.2]) := by
 unfold spec_l38Acts at h
 refine enterC [.q p0 0] (args := [(SV.q p0 0).den []]) hv0_0 (by kernel_rfl) (by kernel_rfl) Tryz.func59 rfl Tryz.ntmps59 (by kernel_rfl) (fun g hg hs0 => ?_)
 refine qs (qr (oN 1 [] [0] ?_))
 refine oe (nt (qs (qr (ob [] [CurRes 138 (CurD.mk xb0 xi0 xh0) p0 ca0 cc0] 66 0 [] ([] : List Act) (own_flat (by kernel_rfl)) (fun y21 => ?_)))))
 refine oN 1 [(3, .v (.slice y21.1 ([] : List Act).length y21.2))] [0] ?_
 refine oe (nt (qs (qs (qr (oN 1 [(4, vi 0)] [3, 0] ?_)))))
 refine oe (nt ?_)
 obtain ⟨r26, hL27, h28⟩ := bS h
 obtain ⟨k29, hk30, h28⟩ := brkS h28
 refine JC_cutP (τ := ((List Act) × Int × Int) × (AC)) (fun y => k29 y.1 = some r) (fun y34 => [(3, .v (.slice y34.2.1 y34.1.1.length y34.2.2)), (0, .q p0 0)]) (fun y34 => []) (fun y34 => [SlRes 66 y34.1.1 y34.2.1 y34.2.2, CurRes 138 (CurD.mk xb0 y34.1.2.1 y34.1.2.2) p0 ca0 cc0]) ?_ (fun y34 h35p => ?_)
 · refine qb (lp AC hL27 (fun s23 y24 => [(4, vi s23.1), (3, .v (.slice y24.1 s23.2.1.length y24.2)), (0, .q p0 0)]) (fun s23 y24 => []) (fun s23 y24 => [SlRes 66 s23.2.1 y24.1 y24.2, CurRes 138 (CurD.mk xb0 s23.2.2.1 s23.2.2.2) p0 ca0 cc0]) (y21.1, y21.2) [4, 3, 0] [0, 0] 0 (fun s23 y24 t25 h31 hd32 => ?_))
   refine qs (qs (qr (oN 2 [(7, .q p0 0), (6, vi s23.1)] [4, 3, 0] ?_)))
   refine or_ [1, 0] ?_
   obtain ⟨t36, h37, h38⟩ := bS h31
   refine JO_callC rfl (by kernel_rfl) (f := 50) (args := fun γ => #[(SV.q p0 0).den [], .int .i64 10]) (fun γ => by kernel_rfl) (x0 := CurD.mk xb0 s23.2.2.1 s23.2.2.2) (x1 := CurD.mk xb0 t36.2.1 t36.2.2) (Rr := [SlRes 66 s23.2.1 y24.1 y24.2]) rfl hs0 (fun γ w hs => (by have vv := c_spec_l01Below (p0 := p0) (W := w) h37 (hs0.kept hs.kept); exact vv)) (fun (y39 : Unit) => [(8, vi t36.1), (7, .q p0 0), (6, vi s23.1), (4, vi s23.1), (3, .v (.slice y24.1 s23.2.1.length y24.2)), (0, .q p0 0)]) (fun y39 => by kernel_rfl) (fun y39 => ?_)
   refine oN 1 [(9, vb (decide (s23.1 < t36.1)))] [4, 3, 0] ?_
   refine oe (nt (cC h38 (fun h41 => ?_) (fun h42 => ?_)))
   · refine qk (nt (qs (qb (qr (oN 2 [(13, .q p0 0), (12, .v (.slice y24.1 s23.2.1.length y24.2))] [4, 0] ?_)))))
     obtain ⟨t43, h44, h45⟩ := bS h41
     refine JO_callC rfl (by kernel_rfl) (f := 101) (args := fun γ => #[(SV.q p0 0).den []]) (fun γ => by kernel_rfl) (x0 := CurD.mk xb0 t36.2.1 t36.2.2) (x1 := CurD.mk xb0 t43.2.1 t43.2.2) (Rr := [SlRes 66 s23.2.1 y24.1 y24.2]) rfl hs0 (fun γ w hs => (by have vv := c_spec_l38Act (p0 := p0) (W := w) h44 (hs0.kept hs.kept); exact vv)) (fun (y46 : Unit) => [(14, .v (vAct t43.1)), (13, .q p0 0), (12, .v (.slice y24.1 s23.2.1.length y24.2)), (4, vi s23.1), (0, .q p0 0)]) (fun y46 => by kernel_rfl) (fun y46 => ?_)
     refine ob [] [CurRes 138 (CurD.mk xb0 t43.2.1 t43.2.2) p0 ca0 cc0, SlRes 66 s23.2.1 y24.1 y24.2] 66 1 [.int .i64 t43.1.Kind, .int .i64 t43.1.Fact.Key, .int .i64 t43.1.Fact.From, .int .i64 t43.1.Fact.To, .int .i64 t43.1.Fact.Known, .int .i64 t43.1.Fact.Value, .int .i64 t43.1.Point.Month, .int .i64 t43.1.Point.Known, .int .i64 t43.1.Point.Value, .int .i64 t43.1.N] ([t43.1] : List Act) (own_flat (by kernel_rfl)) (fun y47 => ?_)
     refine or_ [2, 0, 0] ?_
     obtain ⟨l50, hm51, h52⟩ := bS h45
     refine oa 55 y47.2 Tryz.t66 (vAct (Act.mk 0 (Fact.mk 0 0 0 0 0) (Point.mk 0 0 0) 0)) (fun γ w hs => ⟨y47.2, (hs.view 1 rfl)⟩) hm51 (fun y49 => ?_)
     refine oN 1 [(3, .v (.slice y49.1 l50.length y49.2))] [4, 0] ?_
     refine oe (bn (nt (qr (oN 3 [(4, vi (w64 (s23.1 + 1)))] [3, 0] ?_))))
     exact oe (ct h52 (y49.1, y49.2) [4, 3, 0] [0, 1] 0)
   refine qx (nx (nx (bh ?_)))
   have h53 := leafB hd32 h42 h28
   exact mp ((s23.2.1, t36.2.1, t36.2.2), (y24.1, y24.2)) h53 [3, 0] [1, 0] 0
 have h35 := (congrFun hk30 _).symm.trans h35p
 refine nt (qs (qr (oN 2 [(2, .v (.slice y34.2.1 y34.1.1.length y34.2.2))] [0] ?_)))
 refine oe (nt (qe (rt [.slice y34.2.1 y34.1.1.length y34.2.2] (fun γ w hs => ?_))))
 rw [← sI h35]
 exact hs.curPost hg y34.2 (is := [1, 0]) rfl

theorem c_spec_DrawActs {W : World} {x0 : List U8} {a0_0 : Option Addr} {c0_0 : Nat} {r : Case × Int × (List Act)} (h : spec_DrawActs x0 = some r) (hv0_0 : SlView W x0 a0_0 c0_0) :
    Gives Tryz.prog 20 #[.slice a0_0 x0.length c0_0] W (fun y : (AC × AC × AC × AC × AC) × AC => .tuple #[vCase r.1 y.1, .int .i64 r.2.1, .slice y.2.1 r.2.2.length y.2.2]) (fun y => [SlRes 76 r.1.Book.Rules y.1.1.1 y.1.1.2, SlRes 47 r.1.Store.Facts y.1.2.1.1 y.1.2.1.2, SlRes 52 r.1.Series.Points y.1.2.2.1.1 y.1.2.2.1.2, SlRes 156 r.1.Member.Spells y.1.2.2.2.1.1 y.1.2.2.2.1.2, SlRes 158 r.1.Member.Events y.1.2.2.2.2.1 y.1.2.2.2.2.2, SlRes 66 r.2.2 y.2.1 y.2.2]) := by
 unfold spec_DrawActs at h
 refine en Tryz.func20 Tryz.ntmps20 ?_
 refine qs (qr (oB 3 [(2, .p 0 0)] [0] [(38, [.slice none 0 0, .slice none 0 0, .slice none 0 0, .int .i64 0, .int .i64 0, .slice none 0 0, .slice none 0 0])] ?_))
 refine oe (nt (qs (qr (oN 1 [(8, .v (.slice a0_0 x0.length c0_0))] [2] ?_))))
 obtain ⟨t21, h22, h23⟩ := bS h
 refine JO_callN rfl (by kernel_rfl) (f := 49) (args := #[.slice a0_0 x0.length c0_0]) (by kernel_rfl) (fun γ w hs => (by have vv := c_spec_l01New (W := w) h22 (hv0_0.kept hs.kept); exact vv)) (fun y24 => [(9, .q y24.1 0), (8, .v (.slice a0_0 x0.length c0_0)), (2, .p 0 0)]) (fun y24 => by kernel_rfl) (fun y24 => ?_)
 refine oN 1 [(5, .q y24.1 0)] [2] ?_
 refine oe (nt (qs (qr (oN 1 [(10, .q y24.1 0)] [5, 2] ?_))))
 obtain ⟨t25, h26, h27⟩ := bS h23
 refine JO_callC rfl (by kernel_rfl) (f := 58) (args := fun γ => #[(SV.q y24.1 0).den []]) (fun γ => by kernel_rfl) (x0 := CurD.mk x0 t21.1 t21.2) (x1 := CurD.mk x0 t25.2.1 t25.2.2) (Rr := []) rfl (Seen.of hv0_0) (fun γ w hs => (by have vv := c_spec_l38Start (p0 := y24.1) (W := w) h26 (hv0_0.kept hs.kept); exact vv)) (fun (y28 : AC × AC × AC × AC × AC) => [(11, .v (vCase t25.1 y28)), (10, .q y24.1 0), (5, .q y24.1 0), (2, .p 0 0)]) (fun y28 => by kernel_rfl) (fun y28 => ?_)
 refine oB 2 [(6, .p 1 0)] [5, 2] [(38, [.slice none 0 0, .slice none 0 0, .slice none 0 0, .int .i64 0, .int .i64 0, .slice none 0 0, .slice none 0 0]), (38, (eCase t25.1 y28))] ?_
 refine oe (nt (qs (qr (oN 1 [(12, .q y24.1 0)] [6, 5, 2] ?_))))
 refine JO_res (R' := [CurRes 138 (CurD.mk x0 t25.2.1 t25.2.2) y24.1 a0_0 c0_0, SlRes 76 t25.1.Book.Rules y28.1.1 y28.1.2, SlRes 47 t25.1.Store.Facts y28.2.1.1 y28.2.1.2, SlRes 52 t25.1.Series.Points y28.2.2.1.1 y28.2.2.1.2, SlRes 156 t25.1.Member.Spells y28.2.2.2.1.1 y28.2.2.2.1.2, SlRes 158 t25.1.Member.Events y28.2.2.2.2.1 y28.2.2.2.2.2]) [5, 0, 0, 0, 0, 0] (by kernel_rfl) ?_
 obtain ⟨t29, h30, h31⟩ := bS h27
 refine JO_callC rfl (by kernel_rfl) (f := 50) (args := fun γ => #[(SV.q y24.1 0).den [], .int .i64 30]) (fun γ => by kernel_rfl) (x0 := CurD.mk x0 t25.2.1 t25.2.2) (x1 := CurD.mk x0 t29.2.1 t29.2.2) (Rr := [SlRes 76 t25.1.Book.Rules y28.1.1 y28.1.2, SlRes 47 t25.1.Store.Facts y28.2.1.1 y28.2.1.2, SlRes 52 t25.1.Series.Points y28.2.2.1.1 y28.2.2.1.2, SlRes 156 t25.1.Member.Spells y28.2.2.2.1.1 y28.2.2.2.1.2, SlRes 158 t25.1.Member.Events y28.2.2.2.2.1 y28.2.2.2.2.2]) rfl (Seen.of hv0_0) (fun γ w hs => (by have vv := c_spec_l01Below (p0 := y24.1) (W := w) h30 (hv0_0.kept hs.kept); exact vv)) (fun (y32 : Unit) => [(13, vi t29.1), (12, .q y24.1 0), (6, .p 1 0), (5, .q y24.1 0), (2, .p 0 0)]) (fun y32 => by kernel_rfl) (fun y32 => ?_)
 refine oN 2 [(7, vi (w64 (20 + t29.1)))] [6, 5, 2] ?_
 refine oe (nt (qs ?_))
 obtain ⟨t33, h34, h35⟩ := bS h31
 refine JC_cut (τ := AC) (fun y37 => [(4, .v (.slice y37.1 t33.1.length y37.2)), (3, vi (w64 (20 + t29.1))), (2, .p 0 0)]) (fun y37 => [(38, (eCase t25.1 y28)), (38, (eCase t25.1 y28))]) (fun y37 => [SlRes 66 t33.1 y37.1 y37.2, CurRes 138 (CurD.mk x0 t33.2.1 t33.2.2) y24.1 a0_0 c0_0, SlRes 76 t25.1.Book.Rules y28.1.1 y28.1.2, SlRes 47 t25.1.Store.Facts y28.2.1.1 y28.2.1.2, SlRes 52 t25.1.Series.Points y28.2.2.1.1 y28.2.2.1.2, SlRes 156 t25.1.Member.Spells y28.2.2.2.1.1 y28.2.2.2.1.2, SlRes 158 t25.1.Member.Events y28.2.2.2.2.1 y28.2.2.2.2.2]) ?_ (fun y37 => ?_)
 · refine JC_weak [7, 6, 5, 2] [0, 0, 0, 0, 0, 0] 2 (sl' := [(7, vi (w64 (20 + t29.1))), (6, .p 1 0), (5, .q y24.1 0), (2, .p 0 0)]) (bx' := [(38, [.slice none 0 0, .slice none 0 0, .slice none 0 0, .int .i64 0, .int .i64 0, .slice none 0 0, .slice none 0 0]), (38, (eCase t25.1 y28))]) (R' := [CurRes 138 (CurD.mk x0 t29.2.1 t29.2.2) y24.1 a0_0 c0_0, SlRes 76 t25.1.Book.Rules y28.1.1 y28.1.2, SlRes 47 t25.1.Store.Facts y28.2.1.1 y28.2.1.2, SlRes 52 t25.1.Series.Points y28.2.2.1.1 y28.2.2.1.2, SlRes 156 t25.1.Member.Spells y28.2.2.2.1.1 y28.2.2.2.1.2, SlRes 158 t25.1.Member.Events y28.2.2.2.2.1 y28.2.2.2.2.2]) (by kernel_rfl) (by kernel_rfl) (by kernel_rfl) (by kernel_rfl) ?_
   refine JC_heldN (ks := [1]) (Rk := [SlRes 76 t25.1.Book.Rules y28.1.1 y28.1.2, SlRes 47 t25.1.Store.Facts y28.2.1.1 y28.2.1.2, SlRes 52 t25.1.Series.Points y28.2.2.1.1 y28.2.2.1.2, SlRes 156 t25.1.Member.Spells y28.2.2.2.1.1 y28.2.2.2.1.2, SlRes 158 t25.1.Member.Events y28.2.2.2.2.1 y28.2.2.2.2.2]) 7 (by kernel_rfl) (by kernel_rfl) ?_
   refine htq 0 (.v (vCase t25.1 y28)) [1, 1, 1, 1, 1] ?_
   refine hk [15, 7, 5, 2] ?_
   refine htq 1 (vi (w64 (20 + t29.1))) [1, 1, 1, 1, 1] ?_
   refine hk [16, 15, 5, 2] ?_
   refine htq 2 (.q y24.1 0) [1, 1, 1, 1, 1] ?_
   refine hk [17, 16, 15, 2] ?_
   refine ha1 3 ?_
   refine hi (fun γ0 δ hm => ?_)
   refine JG_callC (by kernel_rfl) (f := 59) (args := #[(SV.q y24.1 0).den []]) (by kernel_rfl) (x0 := CurD.mk x0 t29.2.1 t29.2.2) (x1 := CurD.mk x0 t33.2.1 t33.2.2) (Rr := [SlRes 76 t25.1.Book.Rules y28.1.1 y28.1.2, SlRes 47 t25.1.Store.Facts y28.2.1.1 y28.2.1.2, SlRes 52 t25.1.Series.Points y28.2.2.1.1 y28.2.2.1.2, SlRes 156 t25.1.Member.Spells y28.2.2.2.1.1 y28.2.2.2.1.2, SlRes 158 t25.1.Member.Events y28.2.2.2.2.1 y28.2.2.2.2.2]) rfl (Seen.of hv0_0) (fun w hs => (by have vv := c_spec_l38Acts (p0 := y24.1) (W := w) h34 (hv0_0.kept hs.kept); exact vv)) (fun (y36 : AC) => [(18, .v (.slice y36.1 t33.1.length y36.2)), (17, .q y24.1 0), (16, vi (w64 (20 + t29.1))), (15, .v (vCase t25.1 y28)), (2, .p 0 0)]) (fun y36 => by kernel_rfl) (fun y36 => ?_)
   refine gn hm [18, 16, 15, 2] [2, 2, 2, 2, 2] ?_
   refine ha1 4 ?_
   refine hi (fun γ0 δ hm => ?_)
   refine gs [(18, .v (.slice y36.1 t33.1.length y36.2)), (16, vi (w64 (20 + t29.1))), (15, .v (vCase t25.1 y28)), (2, .p 0 0)] [(38, (eCase t25.1 y28)), (38, (eCase t25.1 y28))] (fun δ2 => ?_)
   refine gd hm [18, 16, 2] [2, 2, 2, 2, 2] ?_
   refine htq 5 (vi (w64 (20 + t29.1))) [2, 2, 2, 2, 2] ?_
   refine hk [3, 18, 2] ?_
   refine htq 6 (.v (.slice y36.1 t33.1.length y36.2)) [2, 2, 2, 2, 2] ?_
   refine hk [4, 3, 2] ?_
   exact hd y36 [4, 3, 2] [0, 0, 0, 0, 0, 0, 0] 2
 refine nt (qe (rt [vCase t25.1 y28, .int .i64 (w64 (20 + t29.1)), .slice y37.1 t33.1.length y37.2] (fun γ w hs => ?_)))
 rw [← sI h35]
 exact ⟨((y28.1, y28.2.1, y28.2.2.1, y28.2.2.2.1, y28.2.2.2.2), y37), rfl, hs.kept.toBelow, (hs.takeR (is := [2, 2, 2, 2, 2, 0]) rfl).fresh⟩

theorem c_spec_DrawPlaces {W : World} {x0 : List U8} {a0_0 : Option Addr} {c0_0 : Nat} {r : (List Int)} (h : spec_DrawPlaces x0 = some r) (hv0_0 : SlView W x0 a0_0 c0_0) :
    Gives Tryz.prog 14 #[.slice a0_0 x0.length c0_0] W (fun y : AC => .slice y.1 r.length y.2) (fun y => [SlRes 3 r y.1 y.2]) := by
 unfold spec_DrawPlaces at h
 refine en Tryz.func14 Tryz.ntmps14 ?_
 refine qs (qr (oN 1 [] [0] ?_))
 refine oe (nt (qs (qr (oN 1 [(6, .v (.slice a0_0 x0.length c0_0))] [] ?_))))
 obtain ⟨t21, h22, h23⟩ := bS h
 refine JO_callN rfl (by kernel_rfl) (f := 49) (args := #[.slice a0_0 x0.length c0_0]) (by kernel_rfl) (fun γ w hs => (by have vv := c_spec_l01New (W := w) h22 (hv0_0.kept hs.kept); exact vv)) (fun y24 => [(7, .q y24.1 0), (6, .v (.slice a0_0 x0.length c0_0))]) (fun y24 => by kernel_rfl) (fun y24 => ?_)
 refine oN 1 [(3, .q y24.1 0)] [] ?_
 refine oe (nt (qs (qr (ob [] [CurRes 138 (CurD.mk x0 t21.1 t21.2) y24.1 a0_0 c0_0] 3 0 [] ([] : List Int) (own_flat (by kernel_rfl)) (fun y25 => ?_)))))
 refine oN 1 [(4, .v (.slice y25.1 ([] : List Int).length y25.2))] [3] ?_
 refine oe (nt (qs (qs (qr (oN 1 [(5, vi 0)] [4, 3] ?_)))))
 refine oe (nt ?_)
 obtain ⟨r30, hL31, h32⟩ := bS h23
 obtain ⟨k33, hk34, h32⟩ := brkS h32
 refine JC_cutP (τ := ((List Int)) × (AC)) (fun y => k33 y.1 = some r) (fun y38 => [(4, .v (.slice y38.2.1 y38.1.length y38.2.2))]) (fun y38 => []) (fun y38 => [SlRes 3 y38.1 y38.2.1 y38.2.2]) ?_ (fun y38 h39p => ?_)
 · refine qb (lp AC hL31 (fun s27 y28 => [(5, vi s27.1), (4, .v (.slice y28.1 s27.2.1.length y28.2)), (3, .q y24.1 0)]) (fun s27 y28 => []) (fun s27 y28 => [SlRes 3 s27.2.1 y28.1 y28.2, CurRes 138 (CurD.mk x0 s27.2.2.1 s27.2.2.2) y24.1 a0_0 c0_0]) (y25.1, y25.2) [5, 4, 3] [0, 0] 0 (fun s27 y28 t29 h35 hd36 => ?_))
   refine qs (qs (qr (oN 2 [(10, vb (decide (s27.1 < 12)))] [5, 4, 3] ?_)))
   refine oe (nt (cC h35 (fun h41 => ?_) (fun h42 => ?_)))
   · refine qk (nt (qs (qb (qr (oN 2 [(14, .q y24.1 0), (13, .v (.slice y28.1 s27.2.1.length y28.2))] [5, 3] ?_)))))
     refine or_ [1, 0] ?_
     obtain ⟨t43, h44, h45⟩ := bS h41
     refine JO_callC rfl (by kernel_rfl) (f := 50) (args := fun γ => #[(SV.q y24.1 0).den [], .int .i64 10000]) (fun γ => by kernel_rfl) (x0 := CurD.mk x0 s27.2.2.1 s27.2.2.2) (x1 := CurD.mk x0 t43.2.1 t43.2.2) (Rr := [SlRes 3 s27.2.1 y28.1 y28.2]) rfl (Seen.of hv0_0) (fun γ w hs => (by have vv := c_spec_l01Below (p0 := y24.1) (W := w) h44 (hv0_0.kept hs.kept); exact vv)) (fun (y46 : Unit) => [(15, vi t43.1), (14, .q y24.1 0), (13, .v (.slice y28.1 s27.2.1.length y28.2)), (5, vi s27.1), (3, .q y24.1 0)]) (fun y46 => by kernel_rfl) (fun y46 => ?_)
     refine ob [] [CurRes 138 (CurD.mk x0 t43.2.1 t43.2.2) y24.1 a0_0 c0_0, SlRes 3 s27.2.1 y28.1 y28.2] 3 1 [.int .i64 t43.1] ([t43.1] : List Int) (own_flat (by kernel_rfl)) (fun y47 => ?_)
     refine or_ [2, 0, 0] ?_
     obtain ⟨l50, hm51, h52⟩ := bS h45
     refine oa 39 y47.2 Tryz.t3 (.int .i64 0) (fun γ w hs => ⟨y47.2, (hs.view 1 rfl)⟩) hm51 (fun y49 => ?_)
     refine oN 1 [(4, .v (.slice y49.1 l50.length y49.2))] [5, 3] ?_
     refine oe (bn (nt (qr (oN 3 [(5, vi (w64 (s27.1 + 1)))] [4, 3] ?_))))
     exact oe (ct h52 (y49.1, y49.2) [5, 4, 3] [0, 1] 0)
   refine qx (nx (nx (bh ?_)))
   have h53 := leafB hd36 h42 h32
   exact mp (s27.2.1, (y28.1, y28.2)) h53 [4] [0] 0
 have h39 := (congrFun hk34 _).symm.trans h39p
 refine nt (qs (qr (oN 2 [(2, .v (.slice y38.2.1 y38.1.length y38.2.2))] [] ?_)))
 refine oe (nt (qe (rt [.slice y38.2.1 y38.1.length y38.2.2] (fun γ w hs => ?_))))
 rw [← sI h39]
 exact ⟨y38.2, rfl, hs.kept.toBelow, (hs.takeR (is := [0]) rfl).fresh⟩

theorem c_slices_Clone_Node {W : World} {x0 : List Node} {a0_0 : Option Addr} {c0_0 : Nat} {r : (List Node)} (h : slices_Clone_Node x0 = some r) (hv0_0 : SlView W x0 a0_0 c0_0) :
    Gives Tryz.prog 176 #[.slice a0_0 x0.length c0_0] W (fun y : AC => .slice y.1 r.length y.2) (fun y => [SlRes 154 r y.1 y.2]) := by
 unfold slices_Clone_Node at h
 refine en Tryz.func176 Tryz.ntmps176 ?_
 refine qs (qr (oN 1 [] [0] ?_))
 refine oe (nt (qs (qs (qr (oN 1 [(3, .v (.slice a0_0 x0.length c0_0))] [0] ?_)))))
 rcases a0_0 with _ | d21
 · obtain rfl := hv0_0.nil rfl
   obtain rfl := hv0_0.nilE
   have h22 : (some ([] : List Node)) = some r := h
   refine oN 1 [(4, vb true)] [0] ?_
   refine oe (nt (JC_cond true (by kernel_rfl) (fun _ => ?_) (fun hb => by cases hb)))
   refine qs (qr (oN 1 [(2, .v (.slice none 0 0))] [] ?_))
   refine oe (nt (qe (nr (JE_addnil 154 (List.nil (α := Node)) rfl ?_))))
   refine rt [.slice none 0 0] (fun γ w hs => ?_)
   rw [← sI h22]
   exact ⟨(none, 0), rfl, hs.kept.toBelow, (hs.takeR (is := [0]) rfl).fresh⟩
 refine oN 1 [(4, vb false)] [0] ?_
 refine oe (nt (JC_cond false (by kernel_rfl) (fun hb => by cases hb) (fun _ => ?_)))
 refine qk (nt (qs (qr (ob [] [] 154 0 [] ([] : List Node) (own_flat (by kernel_rfl)) (fun y24 => ?_)))))
 refine oN 1 [(6, .v (.slice (some d21) x0.length c0_0))] [5] ?_
 obtain ⟨l27, hm28, h29⟩ := bS h
 refine oa 74 c0_0 Tryz.t154 (vNode (Node.mk 0 0 0 0 (Frac.mk 0 0))) (fun γ w hs => ⟨c0_0, (hv0_0.kept hs.kept)⟩) hm28 (fun y26 => ?_)
 refine oN 1 [(2, .v (.slice y26.1 l27.length y26.2))] [] ?_
 refine oe (nt (qe (rt [.slice y26.1 l27.length y26.2] (fun γ w hs => ?_))))
 rw [← sI h29]
 exact ⟨y26, rfl, hs.kept.toBelow, (hs.takeR (is := [0]) rfl).fresh⟩

theorem c_impl_copyNodes {W : World} {x0 : List Node} {a0_0 : Option Addr} {c0_0 : Nat} {r : (List Node)} (h : impl_copyNodes x0 = some r) (hv0_0 : SlView W x0 a0_0 c0_0) :
    Gives Tryz.prog 118 #[.slice a0_0 x0.length c0_0] W (fun y : AC => .slice y.1 r.length y.2) (fun y => [SlRes 154 r y.1 y.2]) := by
 unfold impl_copyNodes at h
 refine en Tryz.func118 Tryz.ntmps118 ?_
 refine qs (qr (oN 1 [] [0] ?_))
 refine oe (nt (qs (qr (oN 1 [(3, .v (.slice a0_0 x0.length c0_0))] [] ?_))))
 obtain ⟨t21, h22, h23⟩ := bS h
 refine k1 (fun γ w hs => c_slices_Clone_Node h22 (hv0_0.kept hs.kept)) (fun y24 => ?_)
 refine oN 1 [(2, .v (.slice y24.1 t21.length y24.2))] [] ?_
 refine oe (nt (qe (rt [.slice y24.1 t21.length y24.2] (fun γ w hs => ?_))))
 rw [← sI h23]
 exact ⟨y24, rfl, hs.kept.toBelow, (hs.takeR (is := [0]) rfl).fresh⟩

theorem c_impl_copyBook {W : World} {x0 : Book} {a0_0 : Option Addr} {c0_0 : Nat} {r : Book} (h : impl_copyBook x0 = some r) (hv0_0 : SlView W x0.Rules a0_0 c0_0) :
    Gives Tryz.prog 104 #[vBook x0 (a0_0, c0_0)] W (fun y : AC => vBook r y) (fun y => [SlRes 76 r.Rules y.1 y.2]) := by
 unfold impl_copyBook at h
 refine en Tryz.func104 Tryz.ntmps104 ?_
 refine qs (qr (oB 2 [(2, .p 1 0), (1, .p 0 0)] [] [(26, (eBook x0 (a0_0, c0_0))), (26, [.slice none 0 0])] ?_))
 refine oe (nt (qs (qr (oB 3 [(3, .p 2 0)] [2, 1] [(26, (eBook x0 (a0_0, c0_0))), (26, [.slice none 0 0]), (26, [.slice none 0 0])] ?_))))
 refine oe (nt (qs (qs (qr (oN 4 [(10, vi 0), (9, vi (x0.Rules.length : Int)), (8, .v (.slice a0_0 x0.Rules.length c0_0))] [3, 2] ?_)))))
 refine oe (nt (JC_addnil 76 (List.nil (α := Rule)) rfl ?_))
 obtain ⟨r24, hL25, h26⟩ := bS h
 obtain ⟨k27, hk28, h26⟩ := brkS h26
 refine JC_cutP (τ := ((List Rule)) × (AC)) (fun y => k27 y.1 = some r) (fun y32 => [(3, .p 2 0), (2, .p 1 0)]) (fun y32 => [(26, (eBook x0 (a0_0, c0_0))), (26, [.slice none 0 0]), (26, (eBook (Book.mk y32.1) y32.2))]) (fun y32 => [SlRes 76 y32.1 y32.2.1 y32.2.2]) ?_ (fun y32 h33p => ?_)
 · refine qb (lp AC hL25 (fun s21 y22 => [(10, vi s21.1), (9, vi (x0.Rules.length : Int)), (8, .v (.slice a0_0 x0.Rules.length c0_0)), (3, .p 2 0), (2, .p 1 0)]) (fun s21 y22 => [(26, (eBook x0 (a0_0, c0_0))), (26, [.slice none 0 0]), (26, (eBook (Book.mk s21.2) y22))]) (fun s21 y22 => [SlRes 76 s21.2 y22.1 y22.2]) (none, 0) [10, 9, 8, 3, 2] [0] 3 (fun s21 y22 t23 h29 hd30 => ?_))
   refine qs (qr (oN 1 [(11, vb (decide (s21.1 < (x0.Rules.length : Int))))] [10, 9, 8, 3, 2] ?_))
   refine oe (nt (qs (cC h29 (fun h35 => ?_) (fun h36 => ?_))))
   · refine qk (nt (qs (qb (qs (qr ?_)))))
     obtain ⟨x37, hx38, h39⟩ := bS h35
     refine oi 7 (fun γ w hs => (hv0_0.kept hs.kept)) hx38 ?_
     obtain ⟨_, ⟨a40, c41, rfl, hv42⟩, hc43⟩ := SlView.at hv0_0 (idx_some hx38).2.2
     refine ol 76 0 (vRule x37 (a40, c41)) (fun γ w hs => ⟨(hv0_0.kept hs.kept).ne (idx_some hx38).2.2, hc43.kept hs.kept⟩) ?_
     refine oB 2 [(5, .p 3 0)] [10, 9, 8, 3, 2] [(26, (eBook x0 (a0_0, c0_0))), (26, [.slice none 0 0]), (26, (eBook (Book.mk s21.2) y22)), (76, (eRule x37 (a40, c41)))] ?_
     refine oe (nt (qs (qr (oN 2 [(15, .v (.slice a40 x37.Nodes.length c41))] [5, 10, 9, 8, 3, 2] ?_))))
     obtain ⟨t44, h45, h46⟩ := bS h39
     refine k1 (fun γ w hs => c_impl_copyNodes h45 (hv42.kept hs.kept)) (fun y47 => ?_)
     refine oB 2 [] [5, 10, 9, 8, 3, 2] [(26, (eBook x0 (a0_0, c0_0))), (26, [.slice none 0 0]), (26, (eBook (Book.mk s21.2) y22)), (76, (eRule (Rule.mk x37.Name x37.From x37.To x37.Joined x37.Rank x37.Mode t44) y47))] ?_
     refine oe (nt (qr (oN 3 [(20, .v (vRule (Rule.mk x37.Name x37.From x37.To x37.Joined x37.Rank x37.Mode t44) y47)), (19, .v (.slice y22.1 s21.2.length y22.2))] [10, 9, 8, 3, 2] ?_)))
     refine ob [SlRes 154 t44 y47.1 y47.2] [SlRes 76 s21.2 y22.1 y22.2] 76 1 [.int .i64 x37.Name, .int .i64 x37.From, .int .i64 x37.To, .int .i64 x37.Joined, .int .i64 x37.Rank, .int .i64 x37.Mode, .slice y47.1 t44.length y47.2] ([Rule.mk x37.Name x37.From x37.To x37.Joined x37.Rank x37.Mode t44] : List Rule) (own_single (by rintro w Fs ⟨G0, _, rfl, h0, rfl⟩; exact ⟨154, y47.1, y47.2, G0, by simp, rfl, h0⟩)) (fun y48 => ?_)
     refine or_ [1, 0] ?_
     obtain ⟨l51, hm52, h53⟩ := bS h46
     refine JO_appendR (α := Rule) rfl (by kernel_rfl) (t := 24) (e := 76) (a1 := y22.1) (a2 := y48.1) (c1 := y22.2) (c2 := y48.2) (l1 := s21.2) (l2 := ([Rule.mk x37.Name x37.From x37.To x37.Joined x37.Rank x37.Mode t44] : List Rule)) (by kernel_rfl) (i := Tryz.t76) (by kernel_rfl) (z := (vRule (Rule.mk 0 0 0 0 0 0 ([] : List Node)) (none, 0))) (by kernel_rfl) (by kernel_rfl) (by kernel_rfl) (by kernel_rfl) (Rr := []) rfl hm52 _ (fun _ => rfl) (fun y50 => ?_)
     refine oB 2 [] [10, 9, 8, 3, 2] [(26, (eBook x0 (a0_0, c0_0))), (26, [.slice none 0 0]), (26, (eBook (Book.mk l51) y50)), (76, (eRule (Rule.mk x37.Name x37.From x37.To x37.Joined x37.Rank x37.Mode t44) y47))] ?_
     refine oe (bn (nt (qr (oN 2 [(10, vi (w64 (s21.1 + 1)))] [9, 8, 3, 2] ?_))))
     exact oe (ct h53 (y50.1, y50.2) [10, 9, 8, 3, 2] [0] 3)
   refine qx (nx (nx (bh ?_)))
   have h54 := leafB hd30 h36 h26
   exact mp (s21.2, (y22.1, y22.2)) h54 [3, 2] [0] 3
 have h33 := (congrFun hk28 _).symm.trans h33p
 refine nt (qs (qr (oB 2 [] [2] [(26, (eBook x0 (a0_0, c0_0))), (26, (eBook (Book.mk y32.1) y32.2)), (26, (eBook (Book.mk y32.1) y32.2))] ?_)))
 refine oe (nt (qe (rt [vBook (Book.mk y32.1) y32.2] (fun γ w hs => ?_))))
 rw [← sI h33]
 exact ⟨y32.2, rfl, hs.kept.toBelow, (hs.takeR (is := [0]) rfl).fresh⟩

theorem c_slices_Clone_Fact {W : World} {x0 : List Fact} {a0_0 : Option Addr} {c0_0 : Nat} {r : (List Fact)} (h : slices_Clone_Fact x0 = some r) (hv0_0 : SlView W x0 a0_0 c0_0) :
    Gives Tryz.prog 90 #[.slice a0_0 x0.length c0_0] W (fun y : AC => .slice y.1 r.length y.2) (fun y => [SlRes 47 r y.1 y.2]) := by
 unfold slices_Clone_Fact at h
 refine en Tryz.func90 Tryz.ntmps90 ?_
 refine qs (qr (oN 1 [] [0] ?_))
 refine oe (nt (qs (qs (qr (oN 1 [(3, .v (.slice a0_0 x0.length c0_0))] [0] ?_)))))
 rcases a0_0 with _ | d21
 · obtain rfl := hv0_0.nil rfl
   obtain rfl := hv0_0.nilE
   have h22 : (some ([] : List Fact)) = some r := h
   refine oN 1 [(4, vb true)] [0] ?_
   refine oe (nt (JC_cond true (by kernel_rfl) (fun _ => ?_) (fun hb => by cases hb)))
   refine qs (qr (oN 1 [(2, .v (.slice none 0 0))] [] ?_))
   refine oe (nt (qe (nr (JE_addnil 47 (List.nil (α := Fact)) rfl ?_))))
   refine rt [.slice none 0 0] (fun γ w hs => ?_)
   rw [← sI h22]
   exact ⟨(none, 0), rfl, hs.kept.toBelow, (hs.takeR (is := [0]) rfl).fresh⟩
 refine oN 1 [(4, vb false)] [0] ?_
 refine oe (nt (JC_cond false (by kernel_rfl) (fun hb => by cases hb) (fun _ => ?_)))
 refine qk (nt (qs (qr (ob [] [] 47 0 [] ([] : List Fact) (own_flat (by kernel_rfl)) (fun y24 => ?_)))))
 refine oN 1 [(6, .v (.slice (some d21) x0.length c0_0))] [5] ?_
 obtain ⟨l27, hm28, h29⟩ := bS h
 refine oa 27 c0_0 Tryz.t47 (vFact (Fact.mk 0 0 0 0 0)) (fun γ w hs => ⟨c0_0, (hv0_0.kept hs.kept)⟩) hm28 (fun y26 => ?_)
 refine oN 1 [(2, .v (.slice y26.1 l27.length y26.2))] [] ?_
 refine oe (nt (qe (rt [.slice y26.1 l27.length y26.2] (fun γ w hs => ?_))))
 rw [← sI h29]
 exact ⟨y26, rfl, hs.kept.toBelow, (hs.takeR (is := [0]) rfl).fresh⟩

theorem c_impl_copyStore {W : World} {x0 : Store} {a0_0 : Option Addr} {c0_0 : Nat} {r : Store} (h : impl_copyStore x0 = some r) (hv0_0 : SlView W x0.Facts a0_0 c0_0) :
    Gives Tryz.prog 92 #[vStore x0 (a0_0, c0_0)] W (fun y : AC => vStore r y) (fun y => [SlRes 47 r.Facts y.1 y.2]) := by
 unfold impl_copyStore at h
 refine en Tryz.func92 Tryz.ntmps92 ?_
 refine qs (qr (oB 2 [(2, .p 1 0), (1, .p 0 0)] [] [(29, (eStore x0 (a0_0, c0_0))), (29, [.slice none 0 0])] ?_))
 refine oe (nt (qs (qr (oN 2 [(4, .v (.slice a0_0 x0.Facts.length c0_0))] [2] ?_))))
 obtain ⟨t21, h22, h23⟩ := bS h
 refine k1 (fun γ w hs => c_slices_Clone_Fact h22 (hv0_0.kept hs.kept)) (fun y24 => ?_)
 refine oB 2 [] [2] [(29, (eStore x0 (a0_0, c0_0))), (29, (eStore (Store.mk t21) y24))] ?_
 refine oe (nt (qe (rt [vStore (Store.mk t21) y24] (fun γ w hs => ?_))))
 rw [← sI h23]
 exact ⟨y24, rfl, hs.kept.toBelow, (hs.takeR (is := [0]) rfl).fresh⟩

theorem c_slices_Clone_Point {W : World} {x0 : List Point} {a0_0 : Option Addr} {c0_0 : Nat} {r : (List Point)} (h : slices_Clone_Point x0 = some r) (hv0_0 : SlView W x0 a0_0 c0_0) :
    Gives Tryz.prog 93 #[.slice a0_0 x0.length c0_0] W (fun y : AC => .slice y.1 r.length y.2) (fun y => [SlRes 52 r y.1 y.2]) := by
 unfold slices_Clone_Point at h
 refine en Tryz.func93 Tryz.ntmps93 ?_
 refine qs (qr (oN 1 [] [0] ?_))
 refine oe (nt (qs (qs (qr (oN 1 [(3, .v (.slice a0_0 x0.length c0_0))] [0] ?_)))))
 rcases a0_0 with _ | d21
 · obtain rfl := hv0_0.nil rfl
   obtain rfl := hv0_0.nilE
   have h22 : (some ([] : List Point)) = some r := h
   refine oN 1 [(4, vb true)] [0] ?_
   refine oe (nt (JC_cond true (by kernel_rfl) (fun _ => ?_) (fun hb => by cases hb)))
   refine qs (qr (oN 1 [(2, .v (.slice none 0 0))] [] ?_))
   refine oe (nt (qe (nr (JE_addnil 52 (List.nil (α := Point)) rfl ?_))))
   refine rt [.slice none 0 0] (fun γ w hs => ?_)
   rw [← sI h22]
   exact ⟨(none, 0), rfl, hs.kept.toBelow, (hs.takeR (is := [0]) rfl).fresh⟩
 refine oN 1 [(4, vb false)] [0] ?_
 refine oe (nt (JC_cond false (by kernel_rfl) (fun hb => by cases hb) (fun _ => ?_)))
 refine qk (nt (qs (qr (ob [] [] 52 0 [] ([] : List Point) (own_flat (by kernel_rfl)) (fun y24 => ?_)))))
 refine oN 1 [(6, .v (.slice (some d21) x0.length c0_0))] [5] ?_
 obtain ⟨l27, hm28, h29⟩ := bS h
 refine oa 30 c0_0 Tryz.t52 (vPoint (Point.mk 0 0 0)) (fun γ w hs => ⟨c0_0, (hv0_0.kept hs.kept)⟩) hm28 (fun y26 => ?_)
 refine oN 1 [(2, .v (.slice y26.1 l27.length y26.2))] [] ?_
 refine oe (nt (qe (rt [.slice y26.1 l27.length y26.2] (fun γ w hs => ?_))))
 rw [← sI h29]
 exact ⟨y26, rfl, hs.kept.toBelow, (hs.takeR (is := [0]) rfl).fresh⟩

theorem c_impl_copySeries {W : World} {x0 : Series} {a0_0 : Option Addr} {c0_0 : Nat} {r : Series} (h : impl_copySeries x0 = some r) (hv0_0 : SlView W x0.Points a0_0 c0_0) :
    Gives Tryz.prog 95 #[vSeries x0 (a0_0, c0_0)] W (fun y : AC => vSeries r y) (fun y => [SlRes 52 r.Points y.1 y.2]) := by
 unfold impl_copySeries at h
 refine en Tryz.func95 Tryz.ntmps95 ?_
 refine qs (qr (oB 2 [(2, .p 1 0), (1, .p 0 0)] [] [(32, (eSeries x0 (a0_0, c0_0))), (32, [.slice none 0 0])] ?_))
 refine oe (nt (qs (qr (oN 2 [(4, .v (.slice a0_0 x0.Points.length c0_0))] [2] ?_))))
 obtain ⟨t21, h22, h23⟩ := bS h
 refine k1 (fun γ w hs => c_slices_Clone_Point h22 (hv0_0.kept hs.kept)) (fun y24 => ?_)
 refine oB 2 [] [2] [(32, (eSeries x0 (a0_0, c0_0))), (32, (eSeries (Series.mk t21) y24))] ?_
 refine oe (nt (qe (rt [vSeries (Series.mk t21) y24] (fun γ w hs => ?_))))
 rw [← sI h23]
 exact ⟨y24, rfl, hs.kept.toBelow, (hs.takeR (is := [0]) rfl).fresh⟩

theorem c_slices_Clone_Spell {W : World} {x0 : List Spell} {a0_0 : Option Addr} {c0_0 : Nat} {r : (List Spell)} (h : slices_Clone_Spell x0 = some r) (hv0_0 : SlView W x0 a0_0 c0_0) :
    Gives Tryz.prog 154 #[.slice a0_0 x0.length c0_0] W (fun y : AC => .slice y.1 r.length y.2) (fun y => [SlRes 156 r y.1 y.2]) := by
 unfold slices_Clone_Spell at h
 refine en Tryz.func154 Tryz.ntmps154 ?_
 refine qs (qr (oN 1 [] [0] ?_))
 refine oe (nt (qs (qs (qr (oN 1 [(3, .v (.slice a0_0 x0.length c0_0))] [0] ?_)))))
 rcases a0_0 with _ | d21
 · obtain rfl := hv0_0.nil rfl
   obtain rfl := hv0_0.nilE
   have h22 : (some ([] : List Spell)) = some r := h
   refine oN 1 [(4, vb true)] [0] ?_
   refine oe (nt (JC_cond true (by kernel_rfl) (fun _ => ?_) (fun hb => by cases hb)))
   refine qs (qr (oN 1 [(2, .v (.slice none 0 0))] [] ?_))
   refine oe (nt (qe (nr (JE_addnil 156 (List.nil (α := Spell)) rfl ?_))))
   refine rt [.slice none 0 0] (fun γ w hs => ?_)
   rw [← sI h22]
   exact ⟨(none, 0), rfl, hs.kept.toBelow, (hs.takeR (is := [0]) rfl).fresh⟩
 refine oN 1 [(4, vb false)] [0] ?_
 refine oe (nt (JC_cond false (by kernel_rfl) (fun hb => by cases hb) (fun _ => ?_)))
 refine qk (nt (qs (qr (ob [] [] 156 0 [] ([] : List Spell) (own_flat (by kernel_rfl)) (fun y24 => ?_)))))
 refine oN 1 [(6, .v (.slice (some d21) x0.length c0_0))] [5] ?_
 obtain ⟨l27, hm28, h29⟩ := bS h
 refine oa 33 c0_0 Tryz.t156 (vSpell (Spell.mk 0 0 0 false)) (fun γ w hs => ⟨c0_0, (hv0_0.kept hs.kept)⟩) hm28 (fun y26 => ?_)
 refine oN 1 [(2, .v (.slice y26.1 l27.length y26.2))] [] ?_
 refine oe (nt (qe (rt [.slice y26.1 l27.length y26.2] (fun γ w hs => ?_))))
 rw [← sI h29]
 exact ⟨y26, rfl, hs.kept.toBelow, (hs.takeR (is := [0]) rfl).fresh⟩

theorem c_slices_Clone_Event {W : World} {x0 : List Event} {a0_0 : Option Addr} {c0_0 : Nat} {r : (List Event)} (h : slices_Clone_Event x0 = some r) (hv0_0 : SlView W x0 a0_0 c0_0) :
    Gives Tryz.prog 155 #[.slice a0_0 x0.length c0_0] W (fun y : AC => .slice y.1 r.length y.2) (fun y => [SlRes 158 r y.1 y.2]) := by
 unfold slices_Clone_Event at h
 refine en Tryz.func155 Tryz.ntmps155 ?_
 refine qs (qr (oN 1 [] [0] ?_))
 refine oe (nt (qs (qs (qr (oN 1 [(3, .v (.slice a0_0 x0.length c0_0))] [0] ?_)))))
 rcases a0_0 with _ | d21
 · obtain rfl := hv0_0.nil rfl
   obtain rfl := hv0_0.nilE
   have h22 : (some ([] : List Event)) = some r := h
   refine oN 1 [(4, vb true)] [0] ?_
   refine oe (nt (JC_cond true (by kernel_rfl) (fun _ => ?_) (fun hb => by cases hb)))
   refine qs (qr (oN 1 [(2, .v (.slice none 0 0))] [] ?_))
   refine oe (nt (qe (nr (JE_addnil 158 (List.nil (α := Event)) rfl ?_))))
   refine rt [.slice none 0 0] (fun γ w hs => ?_)
   rw [← sI h22]
   exact ⟨(none, 0), rfl, hs.kept.toBelow, (hs.takeR (is := [0]) rfl).fresh⟩
 refine oN 1 [(4, vb false)] [0] ?_
 refine oe (nt (JC_cond false (by kernel_rfl) (fun hb => by cases hb) (fun _ => ?_)))
 refine qk (nt (qs (qr (ob [] [] 158 0 [] ([] : List Event) (own_flat (by kernel_rfl)) (fun y24 => ?_)))))
 refine oN 1 [(6, .v (.slice (some d21) x0.length c0_0))] [5] ?_
 obtain ⟨l27, hm28, h29⟩ := bS h
 refine oa 34 c0_0 Tryz.t158 (vEvent (Event.mk 0 0)) (fun γ w hs => ⟨c0_0, (hv0_0.kept hs.kept)⟩) hm28 (fun y26 => ?_)
 refine oN 1 [(2, .v (.slice y26.1 l27.length y26.2))] [] ?_
 refine oe (nt (qe (rt [.slice y26.1 l27.length y26.2] (fun γ w hs => ?_))))
 rw [← sI h29]
 exact ⟨y26, rfl, hs.kept.toBelow, (hs.takeR (is := [0]) rfl).fresh⟩

theorem c_impl_copyMember {W : World} {x0 : Member} {b0 : AC × AC} {r : Member} (h : impl_copyMember x0 = some r) (hv0_0 : SlView W x0.Spells b0.1.1 b0.1.2) (hv0_1 : SlView W x0.Events b0.2.1 b0.2.2) :
    Gives Tryz.prog 105 #[vMember x0 b0] W (fun y : AC × AC => vMember r y) (fun y => [SlRes 156 r.Spells y.1.1 y.1.2, SlRes 158 r.Events y.2.1 y.2.2]) := by
 unfold impl_copyMember at h
 refine en Tryz.func105 Tryz.ntmps105 ?_
 refine qs (qr (oB 2 [(2, .p 1 0), (1, .p 0 0)] [] [(36, (eMember x0 b0)), (36, [.int .i64 0, .int .i64 0, .slice none 0 0, .slice none 0 0])] ?_))
 refine oe (nt (qs (qr (oN 2 [(4, .v (.slice b0.1.1 x0.Spells.length b0.1.2))] [2, 1] ?_))))
 obtain ⟨t21, h22, h23⟩ := bS h
 refine k1 (fun γ w hs => c_slices_Clone_Spell h22 (hv0_0.kept hs.kept)) (fun y24 => ?_)
 refine oB 2 [] [2, 1] [(36, (eMember (Member.mk x0.Birth x0.Joined t21 x0.Events) (y24, b0.2))), (36, [.int .i64 0, .int .i64 0, .slice none 0 0, .slice none 0 0])] ?_
 refine oe (nt (qs (qr (oN 2 [(8, .v (.slice b0.2.1 x0.Events.length b0.2.2))] [2, 1] ?_))))
 obtain ⟨t25, h26, h27⟩ := bS h23
 refine k1 (fun γ w hs => c_slices_Clone_Event h26 (hv0_1.kept hs.kept)) (fun y28 => ?_)
 refine oB 2 [] [2, 1] [(36, (eMember (Member.mk x0.Birth x0.Joined t21 t25) (y24, y28))), (36, [.int .i64 0, .int .i64 0, .slice none 0 0, .slice none 0 0])] ?_
 refine oe (nt (qs (qr (oB 2 [] [2] [(36, (eMember (Member.mk x0.Birth x0.Joined t21 t25) (y24, y28))), (36, (eMember (Member.mk x0.Birth x0.Joined t21 t25) (y24, y28)))] ?_))))
 refine oe (nt (qe (rt [vMember (Member.mk x0.Birth x0.Joined t21 t25) (y24, y28)] (fun γ w hs => ?_))))
 rw [← sI h27]
 exact ⟨(y24, y28), rfl, hs.kept.toBelow, (hs.takeR (is := [1, 0]) rfl).fresh⟩

theorem c_impl_copyCase {W : World} {x0 : Case} {b0 : AC × AC × AC × AC × AC} {r : Case} (h : impl_copyCase x0 = some r) (hv0_0 : SlView W x0.Book.Rules b0.1.1 b0.1.2) (hv0_1 : SlView W x0.Store.Facts b0.2.1.1 b0.2.1.2) (hv0_2 : SlView W x0.Series.Points b0.2.2.1.1 b0.2.2.1.2) (hv0_3 : SlView W x0.Member.Spells b0.2.2.2.1.1 b0.2.2.2.1.2) (hv0_4 : SlView W x0.Member.Events b0.2.2.2.2.1 b0.2.2.2.2.2) :
    Gives Tryz.prog 65 #[vCase x0 b0] W (fun y : AC × AC × AC × AC × AC => vCase r y) (fun y => [SlRes 76 r.Book.Rules y.1.1 y.1.2, SlRes 47 r.Store.Facts y.2.1.1 y.2.1.2, SlRes 52 r.Series.Points y.2.2.1.1 y.2.2.1.2, SlRes 156 r.Member.Spells y.2.2.2.1.1 y.2.2.2.1.2, SlRes 158 r.Member.Events y.2.2.2.2.1 y.2.2.2.2.2]) := by
 unfold impl_copyCase at h
 refine en Tryz.func65 Tryz.ntmps65 ?_
 refine qs (qr (oB 2 [(2, .p 1 0), (1, .p 0 0)] [] [(38, (eCase x0 b0)), (38, [.slice none 0 0, .slice none 0 0, .slice none 0 0, .int .i64 0, .int .i64 0, .slice none 0 0, .slice none 0 0])] ?_))
 refine oe (nt (qs ?_))
 obtain ⟨t21, h22, h23⟩ := bS h
 obtain ⟨t25, h26, h27⟩ := bS h23
 obtain ⟨t29, h30, h31⟩ := bS h27
 obtain ⟨t33, h34, h35⟩ := bS h31
 refine JC_cut (τ := AC × AC × AC × (AC × AC)) (fun y37 => [(2, .p 1 0)]) (fun y37 => [(38, (eCase x0 b0)), (38, (eCase (Case.mk t21 t25 t29 t33) y37))]) (fun y37 => [SlRes 156 t33.Spells y37.2.2.2.1.1 y37.2.2.2.1.2, SlRes 158 t33.Events y37.2.2.2.2.1 y37.2.2.2.2.2, SlRes 52 t29.Points y37.2.2.1.1 y37.2.2.1.2, SlRes 47 t25.Facts y37.2.1.1 y37.2.1.2, SlRes 76 t21.Rules y37.1.1 y37.1.2]) ?_ (fun y37 => ?_)
 · refine jw [2, 1] [] ?_
   refine JC_heldN (ks := [0]) (Rk := []) 14 (by kernel_rfl) (by kernel_rfl) ?_
   refine htq 0 (.p 0 0) [] ?_
   refine htq 1 (.v (vBook x0.Book b0.1)) [] ?_
   refine hk [4, 2, 1] ?_
   refine htq 3 (.p 0 1) [] ?_
   refine htq 4 (.v (vStore x0.Store b0.2.1)) [] ?_
   refine hk [7, 4, 2, 1] ?_
   refine htq 6 (.p 0 2) [] ?_
   refine htq 7 (.v (vSeries x0.Series b0.2.2.1)) [] ?_
   refine hk [10, 7, 4, 2, 1] ?_
   refine htq 9 (.p 0 3) [] ?_
   refine hk [12, 10, 7, 4, 2] ?_
   refine htq 10 (.v (vMember x0.Member b0.2.2.2)) [] ?_
   refine hk [13, 10, 7, 4, 2] ?_
   refine ha1 2 ?_
   refine hi (fun γ0 δ hm => ?_)
   refine g1 (fun w hs => c_impl_copyBook h22 (hv0_0.kept hs.kept)) (fun y24 => ?_)
   refine gn hm [5, 13, 10, 7, 2] [] ?_
   refine ha1 5 ?_
   refine hi (fun γ0 δ hm => ?_)
   refine g1 (fun w hs => c_impl_copyStore h26 (hv0_1.kept hs.kept)) (fun y28 => ?_)
   refine gn hm [8, 5, 13, 10, 2] [] ?_
   refine ha1 8 ?_
   refine hi (fun γ0 δ hm => ?_)
   refine g1 (fun w hs => c_impl_copySeries h30 (hv0_2.kept hs.kept)) (fun y32 => ?_)
   refine gn hm [11, 8, 5, 13, 2] [] ?_
   refine ha1 11 ?_
   refine hi (fun γ0 δ hm => ?_)
   refine g1 (fun w hs => c_impl_copyMember (b0 := b0.2.2.2) h34 (hv0_3.kept hs.kept) (hv0_4.kept hs.kept)) (fun y36 => ?_)
   refine gn hm [14, 11, 8, 5, 2] [] ?_
   refine htq 12 (.v (vCase (Case.mk t21 t25 t29 t33) (y24, y28, y32, y36.1, y36.2))) [] ?_
   refine hk [15, 2] ?_
   refine ha1 13 ?_
   refine hi (fun γ0 δ hm => ?_)
   refine gs [(15, .v (vCase (Case.mk t21 t25 t29 t33) (y24, y28, y32, y36.1, y36.2))), (2, .p 1 0)] [(38, (eCase x0 b0)), (38, (eCase (Case.mk t21 t25 t29 t33) (y24, y28, y32, y36.1, y36.2)))] (fun δ2 => ?_)
   refine gd hm [2] [] ?_
   exact hd (y24, y28, y32, y36) [2] [0, 0, 0, 0, 0] 2
 refine nt (qe (rt [vCase (Case.mk t21 t25 t29 t33) y37] (fun γ w hs => ?_)))
 rw [← sI h35]
 exact ⟨(y37.1, y37.2.1, y37.2.2.1, y37.2.2.2.1, y37.2.2.2.2), rfl, hs.kept.toBelow, (hs.takeR (is := [4, 3, 2, 0, 0]) rfl).fresh⟩

theorem c_impl_within {W : World} {x0 : Int} {x1 : Int} {x2 : Int} {r : Bool} (h : impl_within x0 x1 x2 = some r)  :
    Gives0 Tryz.prog 98 #[.int .i64 x0, .int .i64 x1, .int .i64 x2] W (.bool r) := by
 unfold impl_within at h
 refine en Tryz.func98 Tryz.ntmps98 ?_
 refine qs (qr (oN 1 [] [0, 1, 2] ?_))
 refine oe (nt (qs ?_))
 obtain ⟨p21, hE22, h23⟩ := bS h
 refine JC_cut (τ := Unit) (fun _ => [(6, vb p21)]) (fun _ => []) (fun _ => []) ?_ (fun _ => ?_)
 · refine qr (oN 4 [(10, vb (decide (x1 ≤ x0)))] [0, 2] ?_)
   refine oS 10 hE22 (fun h25 => ?_) (fun h26 => ?_)
   · refine oN 5 [(6, vb (decide (x0 ≤ x2)))] [] ?_
     refine oe ?_
     obtain rfl := sI h25
     exact mt () [6] [] 0
   refine oN 5 [(6, vb false)] [] ?_
   refine oe ?_
   obtain rfl := sI h26
   exact mt () [6] [] 0
 refine nt (qe ?_)
 obtain rfl := sI h23
 exact re [.bool p21]

theorem c_impl_isSpan {W : World} {x0 : Int} {x1 : Int} {r : Bool} (h : impl_isSpan x0 x1 = some r)  :
    Gives0 Tryz.prog 189 #[.int .i64 x0, .int .i64 x1] W (.bool r) := by
 unfold impl_isSpan at h
 refine en Tryz.func189 Tryz.ntmps189 ?_
 refine qs (qr (oN 1 [] [0, 1] ?_))
 refine oe (nt (qs ?_))
 obtain ⟨p21, hE22, h23⟩ := bS h
 refine JC_cut (τ := Unit) (fun _ => [(4, vb p21)]) (fun _ => []) (fun _ => []) ?_ (fun _ => ?_)
 · refine qr (oN 3 [(7, vb (decide (0 ≤ x0)))] [0, 1] ?_)
   refine oS 7 hE22 (fun h25 => ?_) (fun h26 => ?_)
   · refine oN 5 [(12, vb (decide (x0 < x1)))] [1] ?_
     refine oS 12 h25 (fun h28 => ?_) (fun h29 => ?_)
     · refine oN 4 [(4, vb (decide (x1 ≤ 3600)))] [] ?_
       refine oe ?_
       obtain rfl := sI h28
       exact mt () [4] [] 0
     refine oN 4 [(4, vb false)] [] ?_
     refine oe ?_
     obtain rfl := sI h29
     exact mt () [4] [] 0
   refine oN 9 [(4, vb false)] [] ?_
   refine oe ?_
   obtain rfl := sI h26
   exact mt () [4] [] 0
 refine nt (qe ?_)
 obtain rfl := sI h23
 exact re [.bool p21]

theorem c_impl_gcd {W : World} {x0 : Int} {x1 : Int} {r : Int} (h : impl_gcd x0 x1 = some r)  :
    Gives0 Tryz.prog 184 #[.int .i64 x0, .int .i64 x1] W (.int .i64 r) := by
 unfold impl_gcd at h
 refine en Tryz.func184 Tryz.ntmps184 ?_
 refine qs (qr (oN 1 [] [0, 1] ?_))
 refine oe (nt (qs ?_))
 obtain ⟨r24, hL25, h26⟩ := bS h
 obtain ⟨k27, hk28, h26⟩ := brkS h26
 refine JC_cutP (τ := (Int) × (Unit)) (fun y => k27 y.1 = some r) (fun y32 => [(0, vi y32.1)]) (fun y32 => []) (fun y32 => []) ?_ (fun y32 h33p => ?_)
 · refine qb (lp Unit hL25 (fun s21 y22 => [(0, vi s21.1), (1, vi s21.2)]) (fun s21 y22 => []) (fun s21 y22 => []) () [0, 1] [] 0 (fun s21 y22 t23 h29 hd30 => ?_))
   refine qs (qs (qr (oN 2 [(6, vb (s21.2 != 0))] [0, 1] ?_)))
   refine oe (nt (cC h29 (fun h35 => ?_) (fun h36 => ?_)))
   · refine qk (nt (qb (JC_quiet (by kernel_rfl) (by kernel_rfl) ?_)))
     refine qN 3 [(9, vi s21.2), (8, vi s21.1), (7, vi s21.2)] [] ?_
     obtain ⟨u39, hz38, h37⟩ := bS h35
     refine JQ_div rfl (by kernel_rfl) (op := .rem) (k := .i64) (x := s21.1) (y := s21.2) (by kernel_rfl) (nz_some hz38) rfl ?_
     refine qN 2 [(1, vi (Int.tmod s21.1 s21.2)), (0, vi s21.2)] [] ?_
     exact qz (bn (ct h37 () [0, 1] [] 0))
   refine qx (nx (nx (bh ?_)))
   have h40 := leafB hd30 h36 h26
   exact mp (s21.1, ()) h40 [0] [] 0
 have h33 := (congrFun hk28 _).symm.trans h33p
 refine nt (qs (qr (oN 5 [(4, vi (imax y32.1 (w64 (0 - y32.1))))] [] ?_)))
 refine oe (nt (qe ?_))
 obtain rfl := sI h33
 exact re [.int .i64 (imax y32.1 (w64 (0 - y32.1)))]

theorem c_impl_FracOk {W : World} {x0 : Frac} {r : Bool} (h : impl_FracOk x0 = some r)  :
    Gives0 Tryz.prog 137 #[vFrac x0] W (.bool r) := by
 unfold impl_FracOk at h
 refine en Tryz.func137 Tryz.ntmps137 ?_
 refine qs (qr (oB 2 [(1, .p 0 0)] [] [(133, (eFrac x0))] ?_))
 refine oe (nt (qs ?_))
 obtain ⟨p21, hE22, h23⟩ := bS h
 refine JC_cut (τ := Unit) (fun _ => [(2, vb p21)]) (fun _ => [(133, (eFrac x0))]) (fun _ => []) ?_ (fun _ => ?_)
 · refine qr (oN 2 [(4, vi x0.Den)] [1] ?_)
   obtain ⟨t24, h25, h26⟩ := bS hE22
   refine k0 (fun γ w hs => c_impl_within h25) ?_
   refine oN 1 [(6, vb t24)] [1] ?_
   refine oS 6 h26 (fun h29 => ?_) (fun h30 => ?_)
   · refine oN 2 [(8, vi x0.Num)] [6, 1] ?_
     obtain ⟨t31, h32, h33⟩ := bS h29
     refine k0 (fun γ w hs => c_impl_within h32) ?_
     refine oN 2 [(11, vb t31)] [1] ?_
     refine oS 11 h33 (fun h36 => ?_) (fun h37 => ?_)
     · refine oN 4 [(15, vi x0.Den), (13, vi x0.Num)] [11] ?_
       obtain ⟨t38, h39, h40⟩ := bS h36
       refine k0 (fun γ w hs => c_impl_gcd h39) ?_
       refine oN 3 [(2, vb (t38 == 1))] [] ?_
       refine oe ?_
       obtain rfl := sI h40
       exact mt () [2] [] 1
     refine oN 8 [(2, vb false)] [] ?_
     refine oe ?_
     obtain rfl := sI h37
     exact mt () [2] [] 1
   refine oN 13 [(2, vb false)] [] ?_
   refine oe ?_
   obtain rfl := sI h30
   exact mt () [2] [] 1
 refine nt (qe ?_)
 obtain rfl := sI h23
 exact re [.bool p21]

theorem c_impl_NodeOk {W : World} {x0 : Node} {x1 : Int} {r : Bool} (h : impl_NodeOk x0 x1 = some r)  :
    Gives0 Tryz.prog 202 #[vNode x0, .int .i64 x1] W (.bool r) := by
 unfold impl_NodeOk at h
 refine en Tryz.func202 Tryz.ntmps202 ?_
 refine qs (qr (oB 2 [(2, .p 0 0)] [1] [(154, (eNode x0))] ?_))
 refine oe (nt (qs (qr (oB 5 [(5, .p 1 0)] [2, 1] [(154, (eNode x0)), (154, (eNode (Node.mk x0.Kind 0 0 0 (Frac.mk 0 0))))] ?_))))
 refine oe (nt (qs (qb (qs (qr (oN 4 [(9, vb (x0.Kind == 1))] [5, 2, 1] ?_))))))
 refine oe (nt (cC h (fun h52 => ?_) (fun h53 => ?_)))
 · refine qs (qr (oB 4 [] [5, 2] [(154, (eNode x0)), (154, (eNode (Node.mk x0.Kind 0 0 0 x0.Value)))] ?_))
   refine oe (nt (qs ?_))
   obtain ⟨p54, hE55, h56⟩ := bS h52
   refine JC_cut (τ := Unit) (fun _ => [(4, vb p54)]) (fun _ => [(154, (eNode x0)), (154, (eNode (Node.mk x0.Kind 0 0 0 x0.Value)))]) (fun _ => []) ?_ (fun _ => ?_)
   · refine qr (oN 4 [(19, vb ((x0.Kind == x0.Kind) && ((x0.A == 0) && ((x0.B == 0) && ((x0.C == 0) && (((x0.Value.Num == x0.Value.Num) && ((x0.Value.Den == x0.Value.Den) && true)) && true))))))] [2] ?_)
     refine oS 19 hE55 (fun h58 => ?_) (fun h59 => ?_)
     · refine oN 2 [(21, .v (vFrac x0.Value))] [19] ?_
       obtain ⟨t60, h61, h62⟩ := bS h58
       refine k0 (fun γ w hs => c_impl_FracOk h61) ?_
       refine oN 2 [(4, vb t60)] [] ?_
       refine oe ?_
       obtain rfl := sI h62
       exact mt () [4] [] 2
     refine oN 5 [(4, vb false)] [] ?_
     refine oe ?_
     obtain rfl := sI h59
     exact mt () [4] [] 2
   refine nt (qe (br (nr ?_)))
   obtain rfl := sI h56
   exact re [.bool p54]
 refine qs (qr (oN 4 [(24, vb (x0.Kind == 2))] [5, 2, 1] ?_))
 refine oe (nt (cC h53 (fun h82 => ?_) (fun h83 => ?_)))
 · refine qs (qr (oB 4 [] [5, 2] [(154, (eNode x0)), (154, (eNode (Node.mk x0.Kind x0.A 0 0 (Frac.mk 0 0))))] ?_))
   refine oe (nt (qs ?_))
   obtain ⟨p84, hE85, h86⟩ := bS h82
   refine JC_cut (τ := Unit) (fun _ => [(4, vb p84)]) (fun _ => [(154, (eNode x0)), (154, (eNode (Node.mk x0.Kind x0.A 0 0 (Frac.mk 0 0))))]) (fun _ => []) ?_ (fun _ => ?_)
   · refine qr (oN 4 [(34, vb ((x0.Kind == x0.Kind) && ((x0.A == x0.A) && ((x0.B == 0) && ((x0.C == 0) && (((x0.Value.Num == 0) && ((x0.Value.Den == 0) && true)) && true))))))] [2] ?_)
     refine oS 34 hE85 (fun h88 => ?_) (fun h89 => ?_)
     · refine oN 2 [(36, vi x0.A)] [34] ?_
       obtain ⟨t90, h91, h92⟩ := bS h88
       refine k0 (fun γ w hs => c_impl_within h91) ?_
       refine oN 2 [(4, vb t90)] [] ?_
       refine oe ?_
       obtain rfl := sI h92
       exact mt () [4] [] 2
     refine oN 5 [(4, vb false)] [] ?_
     refine oe ?_
     obtain rfl := sI h89
     exact mt () [4] [] 2
   refine nt (qe (br (nr ?_)))
   obtain rfl := sI h86
   exact re [.bool p84]
 refine qs (qr (oN 2 [(41, vi x0.Kind)] [5, 2, 1] ?_))
 obtain ⟨t94, h95, h96⟩ := bS h83
 refine k0 (fun γ w hs => c_impl_within h95) ?_
 refine oN 2 [(39, vb (!t94))] [5, 2, 1] ?_
 refine oe (nt (cC h96 (fun h99 => ?_) (fun h100 => ?_)))
 · refine qs (qr (oN 1 [(4, vb false)] [] ?_))
   refine oe (nt (qe (br (nr ?_))))
   obtain rfl := sI h99
   exact re [.bool false]
 refine qk (bn (nt (qs (JC_cut (τ := Unit) (fun _ => [(5, .p 1 0), (2, .p 0 0), (1, vi x1)]) (fun _ => [(154, (eNode x0)), (154, (eNode (Node.mk x0.Kind x0.A x0.B 0 (Frac.mk 0 0))))]) (fun _ => []) ?_ (fun _ => ?_)))))
 · refine jw [5, 2, 1] [] ?_
   refine JC_heldN (ks := [0]) (Rk := []) 8 (by kernel_rfl) (by kernel_rfl) ?_
   refine htq 0 (.p 0 1) [] ?_
   refine htq 1 (vi x0.A) [] ?_
   refine hk [45, 5, 2, 1] ?_
   refine htq 2 (.p 0 2) [] ?_
   refine htq 3 (vi x0.B) [] ?_
   refine hk [47, 45, 5, 2, 1] ?_
   refine htq 4 (.p 1 1) [] ?_
   refine ha1 5 ?_
   refine hi (fun γ0 δ hm => ?_)
   refine gs [(48, .p 1 1), (47, vi x0.B), (45, vi x0.A), (5, .p 1 0), (2, .p 0 0), (1, vi x1)] [(154, (eNode x0)), (154, (eNode (Node.mk x0.Kind x0.A 0 0 (Frac.mk 0 0))))] (fun δ2 => ?_)
   refine gd hm [47, 5, 2, 1] [] ?_
   refine htq 6 (.p 1 2) [] ?_
   refine ha1 7 ?_
   refine hi (fun γ0 δ hm => ?_)
   refine gs [(49, .p 1 2), (47, vi x0.B), (5, .p 1 0), (2, .p 0 0), (1, vi x1)] [(154, (eNode x0)), (154, (eNode (Node.mk x0.Kind x0.A x0.B 0 (Frac.mk 0 0))))] (fun δ2 => ?_)
   refine gd hm [5, 2, 1] [] ?_
   exact hd () [5, 2, 1] [] 2
 refine nt (qs (qs (qr (oN 3 [(52, vb (x0.Kind == 9))] [5, 2, 1] ?_))))
 refine oe (nt ?_)
 obtain ⟨k105, hk106, h135⟩ := jS h100
 refine JC_cutP (τ := (Int) × (Unit)) (fun y => k105 y.1 = some r) (fun y104 => [(5, .p 1 0), (2, .p 0 0), (1, vi x1)]) (fun y104 => [(154, (eNode x0)), (154, (eNode (Node.mk x0.Kind x0.A x0.B y104.1 (Frac.mk 0 0))))]) (fun y104 => []) ?_ (fun y104 h107p => ?_)
 · refine cC h135 (fun h137 => ?_) (fun h138 => ?_)
   · refine qr (oB 4 [] [5, 2, 1] [(154, (eNode x0)), (154, (eNode (Node.mk x0.Kind x0.A x0.B x0.C (Frac.mk 0 0))))] ?_)
     exact oe (mp (x0.C, ()) h137 [5, 2, 1] [] 2)
   exact qk (mp (0, ()) h138 [5, 2, 1] [] 2)
 have h107 := (congrFun hk106 _).symm.trans h107p
 refine nt (qs ?_)
 obtain ⟨p108, hE109, h110⟩ := bS h107
 refine JC_cut (τ := Unit) (fun _ => [(4, vb p108)]) (fun _ => [(154, (eNode x0)), (154, (eNode (Node.mk x0.Kind x0.A x0.B y104.1 (Frac.mk 0 0))))]) (fun _ => []) ?_ (fun _ => ?_)
 · refine qr (oN 4 [(59, vb ((x0.Kind == x0.Kind) && ((x0.A == x0.A) && ((x0.B == x0.B) && ((x0.C == y104.1) && (((x0.Value.Num == 0) && ((x0.Value.Den == 0) && true)) && true))))))] [2, 1] ?_)
   refine oS 59 hE109 (fun h112 => ?_) (fun h113 => ?_)
   · refine oN 4 [(63, vb (decide (x1 > 0)))] [2, 1] ?_
     refine oS 63 h112 (fun h115 => ?_) (fun h116 => ?_)
     · refine oN 4 [(67, vi (w64 (x1 - 1))), (65, vi x0.A)] [63, 2, 1] ?_
       obtain ⟨t117, h118, h119⟩ := bS h115
       refine k0 (fun γ w hs => c_impl_within h118) ?_
       refine oN 2 [(70, vb t117)] [2, 1] ?_
       refine oS 70 h119 (fun h122 => ?_) (fun h123 => ?_)
       · refine oN 4 [(74, vi (w64 (x1 - 1))), (72, vi x0.B)] [70, 2, 1] ?_
         obtain ⟨t124, h125, h126⟩ := bS h122
         refine k0 (fun γ w hs => c_impl_within h125) ?_
         refine oN 2 [(77, vb t124)] [2, 1] ?_
         refine oS 77 h126 (fun h129 => ?_) (fun h130 => ?_)
         · refine oN 4 [(81, vi (w64 (x1 - 1))), (79, vi x0.C)] [77] ?_
           obtain ⟨t131, h132, h133⟩ := bS h129
           refine k0 (fun γ w hs => c_impl_within h132) ?_
           refine oN 2 [(4, vb t131)] [] ?_
           refine oe ?_
           obtain rfl := sI h133
           exact mt () [4] [] 2
         refine oN 7 [(4, vb false)] [] ?_
         refine oe ?_
         obtain rfl := sI h130
         exact mt () [4] [] 2
       refine oN 14 [(4, vb false)] [] ?_
       refine oe ?_
       obtain rfl := sI h123
       exact mt () [4] [] 2
     refine oN 21 [(4, vb false)] [] ?_
     refine oe ?_
     obtain rfl := sI h116
     exact mt () [4] [] 2
   refine oN 25 [(4, vb false)] [] ?_
   refine oe ?_
   obtain rfl := sI h113
   exact mt () [4] [] 2
 refine nt (qe ?_)
 obtain rfl := sI h110
 exact re [.bool p108]

theorem c_impl_FormulaOk {W : World} {x0 : List Node} {a0_0 : Option Addr} {c0_0 : Nat} {r : Bool} (h : impl_FormulaOk x0 = some r) (hv0_0 : SlView W x0 a0_0 c0_0) :
    Gives0 Tryz.prog 190 #[.slice a0_0 x0.length c0_0] W (.bool r) := by
 unfold impl_FormulaOk at h
 refine en Tryz.func190 Tryz.ntmps190 ?_
 refine qs (qr (oN 1 [] [0] ?_))
 refine oe (nt (qs (qs (qr (oN 3 [(7, vi 0), (6, vi (x0.length : Int)), (5, .v (.slice a0_0 x0.length c0_0))] [0] ?_)))))
 refine oe (nt ?_)
 obtain ⟨r24, hL25, h26⟩ := bS h
 obtain ⟨k27, hk28, h26⟩ := brkS h26
 refine JC_cutP (τ := (Unit) × (Unit)) (fun y => k27 y.1 = some r) (fun y32 => [(0, .v (.slice a0_0 x0.length c0_0))]) (fun y32 => []) (fun y32 => []) ?_ (fun y32 h33p => ?_)
 · refine qb (lp Unit hL25 (fun s21 y22 => [(7, vi s21), (6, vi (x0.length : Int)), (5, .v (.slice a0_0 x0.length c0_0)), (0, .v (.slice a0_0 x0.length c0_0))]) (fun s21 y22 => []) (fun s21 y22 => []) () [7, 6, 5, 0] [] 0 (fun s21 y22 t23 h29 hd30 => ?_))
   refine qs (qr (oN 1 [(8, vb (decide (s21 < (x0.length : Int))))] [7, 6, 5, 0] ?_))
   refine oe (nt (qs (cC h29 (fun h39 => ?_) (fun h40 => ?_))))
   · refine qk (nt (qs (qb (qs (qr (oN 1 [(9, vi s21)] [7, 6, 5, 0] ?_))))))
     obtain ⟨x41, hx42, h43⟩ := bS h39
     refine oi 6 (fun γ w hs => (hv0_0.kept hs.kept)) hx42 ?_
     refine ol 154 0 (vNode x41) (fun γ w hs => (hv0_0.kept hs.kept).flatq hx42) ?_
     refine oB 3 [(3, vi s21), (4, .p 0 0)] [7, 6, 5, 0] [(154, (eNode x41))] ?_
     refine oe (nt (qs (qr (oN 2 [(13, vi s21), (12, .v (vNode x41))] [7, 6, 5, 0] ?_))))
     obtain ⟨t44, h45, h46⟩ := bS h43
     refine k0 (fun γ w hs => c_impl_NodeOk h45) ?_
     refine oN 1 [(15, vb (!t44))] [7, 6, 5, 0] ?_
     refine oe (nt (cC h46 (fun h49 => ?_) (fun h50 => ?_)))
     · refine qs (qr (oN 1 [(2, vb false)] [] ?_))
       refine oe (nt (qe (br (nr (nr ?_)))))
       have h51 := leafR hd30 h49 h26
       refine br (nr (nr ?_))
       obtain rfl := sI h51
       exact re [.bool false]
     refine qk (bn (nt (qr (oN 2 [(7, vi (w64 (s21 + 1)))] [6, 5, 0] ?_))))
     exact oe (ct h50 () [7, 6, 5, 0] [] 0)
   refine qx (nx (nx (bh ?_)))
   have h52 := leafB hd30 h40 h26
   exact mp ((), ()) h52 [0] [] 0
 have h33 := (congrFun hk28 _).symm.trans h33p
 refine nt (qs (qr (oN 2 [(18, vi (x0.length : Int))] [] ?_)))
 obtain ⟨t34, h35, h36⟩ := bS h33
 refine k0 (fun γ w hs => c_impl_within h35) ?_
 refine oN 1 [(2, vb t34)] [] ?_
 refine oe (nt (qe ?_))
 obtain rfl := sI h36
 exact re [.bool t34]

theorem c_impl_RuleOk {W : World} {x0 : Rule} {a0_0 : Option Addr} {c0_0 : Nat} {r : Bool} (h : impl_RuleOk x0 = some r) (hv0_0 : SlView W x0.Nodes a0_0 c0_0) :
    Gives0 Tryz.prog 146 #[vRule x0 (a0_0, c0_0)] W (.bool r) := by
 unfold impl_RuleOk at h
 refine en Tryz.func146 Tryz.ntmps146 ?_
 refine qs (qr (oB 2 [(1, .p 0 0)] [] [(76, (eRule x0 (a0_0, c0_0)))] ?_))
 refine oe (nt (qs ?_))
 obtain ⟨p21, hE22, h23⟩ := bS h
 refine JC_cut (τ := Unit) (fun _ => [(2, vb p21)]) (fun _ => [(76, (eRule x0 (a0_0, c0_0)))]) (fun _ => []) ?_ (fun _ => ?_)
 · refine qr (oN 2 [(4, vi x0.Name)] [1] ?_)
   obtain ⟨t24, h25, h26⟩ := bS hE22
   refine k0 (fun γ w hs => c_impl_within h25) ?_
   refine oN 1 [(6, vb t24)] [1] ?_
   refine oS 6 h26 (fun h29 => ?_) (fun h30 => ?_)
   · refine oN 4 [(10, vi x0.To), (8, vi x0.From)] [6, 1] ?_
     obtain ⟨t31, h32, h33⟩ := bS h29
     refine k0 (fun γ w hs => c_impl_isSpan h32) ?_
     refine oN 2 [(13, vb t31)] [1] ?_
     refine oS 13 h33 (fun h36 => ?_) (fun h37 => ?_)
     · refine oN 2 [(15, vi x0.Joined)] [13, 1] ?_
       obtain ⟨t38, h39, h40⟩ := bS h36
       refine k0 (fun γ w hs => c_impl_within h39) ?_
       refine oN 2 [(18, vb t38)] [1] ?_
       refine oS 18 h40 (fun h43 => ?_) (fun h44 => ?_)
       · refine oN 2 [(20, vi x0.Rank)] [18, 1] ?_
         obtain ⟨t45, h46, h47⟩ := bS h43
         refine k0 (fun γ w hs => c_impl_within h46) ?_
         refine oN 2 [(23, vb t45)] [1] ?_
         refine oS 23 h47 (fun h50 => ?_) (fun h51 => ?_)
         · refine oN 2 [(25, vi x0.Mode)] [23, 1] ?_
           obtain ⟨t52, h53, h54⟩ := bS h50
           refine k0 (fun γ w hs => c_impl_within h53) ?_
           refine oN 2 [(28, vb t52)] [1] ?_
           refine oS 28 h54 (fun h57 => ?_) (fun h58 => ?_)
           · refine oN 2 [(30, .v (.slice a0_0 x0.Nodes.length c0_0))] [28] ?_
             obtain ⟨t59, h60, h61⟩ := bS h57
             refine k0 (fun γ w hs => c_impl_FormulaOk h60 (hv0_0.kept hs.kept)) ?_
             refine oN 2 [(2, vb t59)] [] ?_
             refine oe ?_
             obtain rfl := sI h61
             exact mt () [2] [] 1
           refine oN 5 [(2, vb false)] [] ?_
           refine oe ?_
           obtain rfl := sI h58
           exact mt () [2] [] 1
         refine oN 10 [(2, vb false)] [] ?_
         refine oe ?_
         obtain rfl := sI h51
         exact mt () [2] [] 1
       refine oN 15 [(2, vb false)] [] ?_
       refine oe ?_
       obtain rfl := sI h44
       exact mt () [2] [] 1
     refine oN 20 [(2, vb false)] [] ?_
     refine oe ?_
     obtain rfl := sI h37
     exact mt () [2] [] 1
   refine oN 27 [(2, vb false)] [] ?_
   refine oe ?_
   obtain rfl := sI h30
   exact mt () [2] [] 1
 refine nt (qe ?_)
 obtain rfl := sI h23
 exact re [.bool p21]

theorem c_impl_BookOk {W : World} {x0 : Book} {a0_0 : Option Addr} {c0_0 : Nat} {r : Bool} (h : impl_BookOk x0 = some r) (hv0_0 : SlView W x0.Rules a0_0 c0_0) :
    Gives0 Tryz.prog 96 #[vBook x0 (a0_0, c0_0)] W (.bool r) := by
 unfold impl_BookOk at h
 refine en Tryz.func96 Tryz.ntmps96 ?_
 refine qs (qr (oB 2 [(1, .p 0 0)] [] [(26, (eBook x0 (a0_0, c0_0)))] ?_))
 refine oe (nt (qs (qs (qr (oN 4 [(10, vi 0), (9, vi (x0.Rules.length : Int)), (8, .v (.slice a0_0 x0.Rules.length c0_0))] [1] ?_)))))
 refine oe (nt ?_)
 obtain ⟨r24, hL25, h26⟩ := bS h
 obtain ⟨k27, hk28, h26⟩ := brkS h26
 refine JC_cutP (τ := (Unit) × (Unit)) (fun y => k27 y.1 = some r) (fun y32 => [(1, .p 0 0)]) (fun y32 => [(26, (eBook x0 (a0_0, c0_0)))]) (fun y32 => []) ?_ (fun y32 h33p => ?_)
 · refine qb (lp Unit hL25 (fun s21 y22 => [(10, vi s21.1), (9, vi s21.2), (8, .v (.slice a0_0 x0.Rules.length c0_0)), (1, .p 0 0)]) (fun s21 y22 => [(26, (eBook x0 (a0_0, c0_0)))]) (fun s21 y22 => []) () [10, 9, 8, 1] [] 1 (fun s21 y22 t23 h29 hd30 => ?_))
   refine qs (qr (oN 1 [(11, vb (decide (s21.1 < s21.2)))] [10, 9, 8, 1] ?_))
   refine oe (nt (qs (cC h29 (fun h35 => ?_) (fun h36 => ?_))))
   · refine qk (nt (qs (qb (qs (qr (oN 1 [(12, vi s21.1)] [10, 9, 8, 1] ?_))))))
     obtain ⟨x37, hx38, h39⟩ := bS h35
     refine oi 7 (fun γ w hs => (hv0_0.kept hs.kept)) hx38 ?_
     obtain ⟨_, ⟨a40, c41, rfl, hv42⟩, hc43⟩ := SlView.at hv0_0 (idx_some hx38).2.2
     refine ol 76 0 (vRule x37 (a40, c41)) (fun γ w hs => ⟨(hv0_0.kept hs.kept).ne (idx_some hx38).2.2, hc43.kept hs.kept⟩) ?_
     refine oB 3 [(3, vi s21.1), (4, .p 1 0)] [10, 9, 8, 1] [(26, (eBook x0 (a0_0, c0_0))), (76, (eRule x37 (a40, c41)))] ?_
     refine oe (nt (qs (qs (qr (oN 1 [(15, .v (vRule x37 (a40, c41)))] [3, 4, 10, 9, 8, 1] ?_)))))
     obtain ⟨t44, h45, h46⟩ := bS h39
     refine k0 (fun γ w hs => c_impl_RuleOk h45 (hv42.kept hs.kept)) ?_
     refine oN 1 [(17, vb (!t44))] [3, 4, 10, 9, 8, 1] ?_
     refine oe (nt (cC h46 (fun h49 => ?_) (fun h50 => ?_)))
     · refine qs (qr (oN 1 [(2, vb false)] [] ?_))
       refine oe (nt (qe (nr (br (nr (nr ?_))))))
       have h51 := leafR hd30 h49 h26
       refine br (nr (nr ?_))
       obtain rfl := sI h51
       exact re [.bool false]
     refine qk (nt (qs (qr (oN 3 [(20, vi s21.1), (19, .v (.slice a0_0 x0.Rules.length c0_0))] [4, 10, 9, 8, 1] ?_))))
     obtain ⟨l52, hm53, h54⟩ := bS h50
     have hv55 := SlView.head hv0_0 hm53
     refine JO_head (α := Rule) rfl (by kernel_rfl) (a0 := a0_0) (n0 := x0.Rules.length) (c0 := c0_0) (hi := s21.1) (by kernel_rfl) hm53 (hv0_0).fit rfl ?_
     refine oN 2 [(23, vi 0), (22, vi (l52.length : Int))] [21, 4, 10, 9, 8, 1] ?_
     refine oe (nt ?_)
     obtain ⟨r59, hL60, h61⟩ := bS h54
     obtain ⟨k62, hk63, h61⟩ := brkS h61
     refine JC_cutP (τ := (Int × Int × Int × Int × Int × Int × Int × Int) × (Unit)) (fun y => k62 y.1 = some t23) (fun y67 => [(10, vi y67.1.1), (9, vi y67.1.2.1), (8, .v (.slice a0_0 x0.Rules.length c0_0)), (1, .p 0 0)]) (fun y67 => [(26, (eBook x0 (a0_0, c0_0))), (76, (eRule (Rule.mk y67.1.2.2.1 y67.1.2.2.2.1 y67.1.2.2.2.2.1 y67.1.2.2.2.2.2.1 y67.1.2.2.2.2.2.2.1 y67.1.2.2.2.2.2.2.2 x37.Nodes) (a40, c41)))]) (fun y67 => []) ?_ (fun y67 h68p => ?_)
     · refine qb (lp Unit hL60 (fun s56 y57 => [(23, vi s56), (22, vi (l52.length : Int)), (21, .v (.slice a0_0 l52.length c0_0)), (4, .p 1 0), (10, vi s21.1), (9, vi s21.2), (8, .v (.slice a0_0 x0.Rules.length c0_0)), (1, .p 0 0)]) (fun s56 y57 => [(26, (eBook x0 (a0_0, c0_0))), (76, (eRule x37 (a40, c41)))]) (fun s56 y57 => []) () [23, 22, 21, 4, 10, 9, 8, 1] [] 2 (fun s56 y57 t58 h64 hd65 => ?_))
       refine qs (qr (oN 1 [(24, vb (decide (s56 < (l52.length : Int))))] [23, 22, 21, 4, 10, 9, 8, 1] ?_))
       refine oe (nt (qs (cC h64 (fun h70 => ?_) (fun h71 => ?_))))
       · refine qk (nt (qs (qb (qs (qr ?_)))))
         obtain ⟨x72, hx73, h74⟩ := bS h70
         refine oi 7 (fun γ w hs => (hv55.kept hs.kept)) hx73 ?_
         obtain ⟨_, ⟨a75, c76, rfl, hv77⟩, hc78⟩ := SlView.at hv55 (idx_some hx73).2.2
         refine ol 76 0 (vRule x72 (a75, c76)) (fun γ w hs => ⟨(hv55.kept hs.kept).ne (idx_some hx73).2.2, hc78.kept hs.kept⟩) ?_
         refine oB 2 [(6, .p 2 0)] [23, 22, 21, 4, 10, 9, 8, 1] [(26, (eBook x0 (a0_0, c0_0))), (76, (eRule x37 (a40, c41))), (76, (eRule x72 (a75, c76)))] ?_
         refine oe (nt (qs ?_))
         obtain ⟨p79, hE80, h81⟩ := bS h74
         refine JC_cut (τ := Unit) (fun _ => [(1, .p 0 0), (4, .p 1 0), (8, .v (.slice a0_0 x0.Rules.length c0_0)), (9, vi s21.2), (10, vi s21.1), (21, .v (.slice a0_0 l52.length c0_0)), (22, vi (l52.length : Int)), (23, vi s56), (52, vb p79)]) (fun _ => [(26, (eBook x0 (a0_0, c0_0))), (76, (eRule x37 (a40, c41))), (76, (eRule x72 (a75, c76)))]) (fun _ => []) ?_ (fun _ => ?_)
         · refine qr (oN 6 [(32, vb (x72.Name == x37.Name))] [6, 23, 22, 21, 4, 10, 9, 8, 1] ?_)
           refine oS 32 hE80 (fun h83 => ?_) (fun h84 => ?_)
           · refine oN 7 [(39, vb (x72.Rank == x37.Rank))] [6, 23, 22, 21, 4, 10, 9, 8, 1] ?_
             refine oS 39 h83 (fun h86 => ?_) (fun h87 => ?_)
             · refine oN 7 [(46, vb (decide (x72.From < x37.To)))] [6, 23, 22, 21, 4, 10, 9, 8, 1] ?_
               refine oS 46 h86 (fun h89 => ?_) (fun h90 => ?_)
               · refine oN 6 [(52, vb (decide (x37.From < x72.To)))] [23, 22, 21, 4, 10, 9, 8, 1] ?_
                 refine oe ?_
                 obtain rfl := sI h89
                 exact mt () [1, 4, 8, 9, 10, 21, 22, 23, 52] [] 3
               refine oN 6 [(52, vb false)] [23, 22, 21, 4, 10, 9, 8, 1] ?_
               refine oe ?_
               obtain rfl := sI h90
               exact mt () [1, 4, 8, 9, 10, 21, 22, 23, 52] [] 3
             refine oN 13 [(52, vb false)] [23, 22, 21, 4, 10, 9, 8, 1] ?_
             refine oe ?_
             obtain rfl := sI h87
             exact mt () [1, 4, 8, 9, 10, 21, 22, 23, 52] [] 3
           refine oN 20 [(52, vb false)] [23, 22, 21, 4, 10, 9, 8, 1] ?_
           refine oe ?_
           obtain rfl := sI h84
           exact mt () [1, 4, 8, 9, 10, 21, 22, 23, 52] [] 3
         refine nt (cC h81 (fun h92 => ?_) (fun h93 => ?_))
         · refine qs (qr (oN 1 [(2, vb false)] [] ?_))
           refine oe (nt (qe (br (nr (nr ?_)))))
           have h94 := leafR hd65 h92 h61
           refine br (nr (br (nr (nr ?_))))
           have h95 := leafR hd30 h94 h26
           refine br (nr (nr ?_))
           obtain rfl := sI h95
           exact re [.bool false]
         refine qk (bn (nt (qr (oN 2 [(23, vi (w64 (s56 + 1)))] [1, 4, 8, 9, 10, 21, 22] ?_))))
         exact oe (ct h93 () [23, 22, 21, 4, 10, 9, 8, 1] [] 2)
       refine qx (nx (nx (bh ?_)))
       have h96 := leafB hd65 h71 h61
       exact mp ((s21.1, s21.2, x37.Name, x37.From, x37.To, x37.Joined, x37.Rank, x37.Mode), ()) h96 [10, 9, 8, 1] [] 2
     have h68 := (congrFun hk63 _).symm.trans h68p
     refine bn (nt (qr (oN 2 [(10, vi (w64 (y67.1.1 + 1)))] [9, 8, 1] ?_)))
     exact oe (ct h68 () [10, 9, 8, 1] [] 1)
   refine qx (nx (nx (bh ?_)))
   have h97 := leafB hd30 h36 h26
   exact mp ((), ()) h97 [1] [] 1
 have h33 := (congrFun hk28 _).symm.trans h33p
 refine nt (qs (qr (oN 5 [(2, vb (decide ((x0.Rules.length : Int) ≤ 20)))] [] ?_)))
 refine oe (nt (qe ?_))
 obtain rfl := sI h33
 exact re [.bool (decide ((x0.Rules.length : Int) ≤ 20))]

theorem c_impl_MonthOk {W : World} {x0 : Int} {r : Bool} (h : impl_MonthOk x0 = some r)  :
    Gives0 Tryz.prog 56 #[.int .i64 x0] W (.bool r) := by
 unfold impl_MonthOk at h
 refine en Tryz.func56 Tryz.ntmps56 ?_
 refine qs (qr (oN 1 [] [0] ?_))
 refine oe (nt (qs (qr (oN 1 [(3, vi x0)] [] ?_))))
 obtain ⟨t21, h22, h23⟩ := bS h
 refine k0 (fun γ w hs => c_impl_within h22) ?_
 refine oN 1 [(2, vb t21)] [] ?_
 refine oe (nt (qe ?_))
 obtain rfl := sI h23
 exact re [.bool t21]

theorem c_impl_FactOk {W : World} {x0 : Fact} {r : Bool} (h : impl_FactOk x0 = some r)  :
    Gives0 Tryz.prog 145 #[vFact x0] W (.bool r) := by
 unfold impl_FactOk at h
 refine en Tryz.func145 Tryz.ntmps145 ?_
 refine qs (qr (oB 2 [(1, .p 0 0)] [] [(47, (eFact x0))] ?_))
 refine oe (nt (qs ?_))
 obtain ⟨p21, hE22, h23⟩ := bS h
 refine JC_cut (τ := Unit) (fun _ => [(2, vb p21)]) (fun _ => [(47, (eFact x0))]) (fun _ => []) ?_ (fun _ => ?_)
 · refine qr (oN 2 [(4, vi x0.Key)] [1] ?_)
   obtain ⟨t24, h25, h26⟩ := bS hE22
   refine k0 (fun γ w hs => c_impl_within h25) ?_
   refine oN 1 [(6, vb t24)] [1] ?_
   refine oS 6 h26 (fun h29 => ?_) (fun h30 => ?_)
   · refine oN 4 [(10, vi x0.To), (8, vi x0.From)] [6, 1] ?_
     obtain ⟨t31, h32, h33⟩ := bS h29
     refine k0 (fun γ w hs => c_impl_isSpan h32) ?_
     refine oN 2 [(13, vb t31)] [1] ?_
     refine oS 13 h33 (fun h36 => ?_) (fun h37 => ?_)
     · refine oN 2 [(15, vi x0.Known)] [13, 1] ?_
       obtain ⟨t38, h39, h40⟩ := bS h36
       refine k0 (fun γ w hs => c_impl_MonthOk h39) ?_
       refine oN 2 [(18, vb t38)] [1] ?_
       refine oS 18 h40 (fun h43 => ?_) (fun h44 => ?_)
       · refine oN 2 [(20, vi x0.Value)] [18] ?_
         obtain ⟨t45, h46, h47⟩ := bS h43
         refine k0 (fun γ w hs => c_impl_within h46) ?_
         refine oN 2 [(2, vb t45)] [] ?_
         refine oe ?_
         obtain rfl := sI h47
         exact mt () [2] [] 1
       refine oN 5 [(2, vb false)] [] ?_
       refine oe ?_
       obtain rfl := sI h44
       exact mt () [2] [] 1
     refine oN 10 [(2, vb false)] [] ?_
     refine oe ?_
     obtain rfl := sI h37
     exact mt () [2] [] 1
   refine oN 17 [(2, vb false)] [] ?_
   refine oe ?_
   obtain rfl := sI h30
   exact mt () [2] [] 1
 refine nt (qe ?_)
 obtain rfl := sI h23
 exact re [.bool p21]

theorem c_impl_StoreOk {W : World} {x0 : Store} {a0_0 : Option Addr} {c0_0 : Nat} {r : Bool} (h : impl_StoreOk x0 = some r) (hv0_0 : SlView W x0.Facts a0_0 c0_0) :
    Gives0 Tryz.prog 91 #[vStore x0 (a0_0, c0_0)] W (.bool r) := by
 unfold impl_StoreOk at h
 refine en Tryz.func91 Tryz.ntmps91 ?_
 refine qs (qr (oB 2 [(1, .p 0 0)] [] [(29, (eStore x0 (a0_0, c0_0)))] ?_))
 refine oe (nt (qs (qs (qr (oN 4 [(8, vi 0), (7, vi (x0.Facts.length : Int)), (6, .v (.slice a0_0 x0.Facts.length c0_0))] [1] ?_)))))
 refine oe (nt ?_)
 obtain ⟨r24, hL25, h26⟩ := bS h
 obtain ⟨k27, hk28, h26⟩ := brkS h26
 refine JC_cutP (τ := (Unit) × (Unit)) (fun y => k27 y.1 = some r) (fun y32 => [(1, .p 0 0)]) (fun y32 => [(29, (eStore x0 (a0_0, c0_0)))]) (fun y32 => []) ?_ (fun y32 h33p => ?_)
 · refine qb (lp Unit hL25 (fun s21 y22 => [(8, vi s21), (7, vi (x0.Facts.length : Int)), (6, .v (.slice a0_0 x0.Facts.length c0_0)), (1, .p 0 0)]) (fun s21 y22 => [(29, (eStore x0 (a0_0, c0_0)))]) (fun s21 y22 => []) () [8, 7, 6, 1] [] 1 (fun s21 y22 t23 h29 hd30 => ?_))
   refine qs (qr (oN 1 [(9, vb (decide (s21 < (x0.Facts.length : Int))))] [8, 7, 6, 1] ?_))
   refine oe (nt (qs (cC h29 (fun h35 => ?_) (fun h36 => ?_))))
   · refine qk (nt (qs (qb (qs (qr (oN 1 [(10, vi s21)] [8, 7, 6, 1] ?_))))))
     obtain ⟨x37, hx38, h39⟩ := bS h35
     refine oi 5 (fun γ w hs => (hv0_0.kept hs.kept)) hx38 ?_
     refine ol 47 0 (vFact x37) (fun γ w hs => (hv0_0.kept hs.kept).flatq hx38) ?_
     refine oB 3 [(3, vi s21), (4, .p 1 0)] [8, 7, 6, 1] [(29, (eStore x0 (a0_0, c0_0))), (47, (eFact x37))] ?_
     refine oe (nt (qs ?_))
     obtain ⟨p40, hE41, h42⟩ := bS h39
     refine JC_cut (τ := Unit) (fun _ => [(1, .p 0 0), (6, .v (.slice a0_0 x0.Facts.length c0_0)), (7, vi (x0.Facts.length : Int)), (8, vi s21), (31, vb p40)]) (fun _ => [(29, (eStore x0 (a0_0, c0_0))), (47, (eFact x37))]) (fun _ => []) ?_ (fun _ => ?_)
     · refine JC_quiet (by kernel_rfl) (by kernel_rfl) ?_
       refine qN 1 [(13, .v (vFact x37))] [3, 4, 8, 7, 6, 1] ?_
       obtain ⟨t43, h44, h45⟩ := bS hE41
       refine q0 (fun γ w hs => c_impl_FactOk h44) ?_
       refine qN 2 [(16, vb (!t43))] [3, 4, 8, 7, 6, 1] ?_
       refine qS 16 h45 (fun h48 => ?_) (fun h49 => ?_)
       · refine qN 15 [(31, vb true)] [8, 7, 6, 1] ?_
         refine qz ?_
         obtain rfl := sI h48
         exact mt () [1, 6, 7, 8, 31] [] 2
       refine qN 3 [(19, vb (decide (s21 > 0)))] [16, 3, 4, 8, 7, 6, 1] ?_
       refine qS 19 h49 (fun h51 => ?_) (fun h52 => ?_)
       · refine qN 4 [(23, vi (w64 (s21 - 1))), (21, .v (.slice a0_0 x0.Facts.length c0_0))] [19, 16, 4, 8, 7, 6, 1] ?_
         obtain ⟨x53, hx54, h55⟩ := bS h51
         refine qi 5 (fun γ w hs => (hv0_0.kept hs.kept)) hx54 ?_
         refine qN 1 [(25, .q a0_0 (Int.toNat (w64 (s21 - 1)) * 5 + 3))] [19, 16, 4, 8, 7, 6, 1] ?_
         refine ql 3 3 (.int .i64 x53.Known) (fun γ w hs => (hv0_0.kept hs.kept).flatq hx54) ?_
         refine qN 5 [(31, vb (decide (x53.Known > x37.Known)))] [8, 7, 6, 1] ?_
         refine qz ?_
         obtain rfl := sI h55
         exact mt () [1, 6, 7, 8, 31] [] 2
       refine qN 12 [(31, vb false)] [8, 7, 6, 1] ?_
       refine qz ?_
       obtain rfl := sI h52
       exact mt () [1, 6, 7, 8, 31] [] 2
     refine nt (cC h42 (fun h57 => ?_) (fun h58 => ?_))
     · refine qs (qr (oN 1 [(2, vb false)] [] ?_))
       refine oe (nt (qe (br (nr (nr ?_)))))
       have h59 := leafR hd30 h57 h26
       refine br (nr (nr ?_))
       obtain rfl := sI h59
       exact re [.bool false]
     refine qk (bn (nt (qr (oN 2 [(8, vi (w64 (s21 + 1)))] [1, 6, 7] ?_))))
     exact oe (ct h58 () [8, 7, 6, 1] [] 1)
   refine qx (nx (nx (bh ?_)))
   have h60 := leafB hd30 h36 h26
   exact mp ((), ()) h60 [1] [] 1
 have h33 := (congrFun hk28 _).symm.trans h33p
 refine nt (qs (qr (oN 5 [(2, vb (decide ((x0.Facts.length : Int) ≤ 200)))] [] ?_)))
 refine oe (nt (qe ?_))
 obtain rfl := sI h33
 exact re [.bool (decide ((x0.Facts.length : Int) ≤ 200))]

theorem c_impl_SeriesOk {W : World} {x0 : Series} {a0_0 : Option Addr} {c0_0 : Nat} {r : Bool} (h : impl_SeriesOk x0 = some r) (hv0_0 : SlView W x0.Points a0_0 c0_0) :
    Gives0 Tryz.prog 94 #[vSeries x0 (a0_0, c0_0)] W (.bool r) := by
 unfold impl_SeriesOk at h
 refine en Tryz.func94 Tryz.ntmps94 ?_
 refine qs (qr (oB 2 [(1, .p 0 0)] [] [(32, (eSeries x0 (a0_0, c0_0)))] ?_))
 refine oe (nt (qs (qs (qr (oN 4 [(8, vi 0), (7, vi (x0.Points.length : Int)), (6, .v (.slice a0_0 x0.Points.length c0_0))] [1] ?_)))))
 refine oe (nt ?_)
 obtain ⟨r24, hL25, h26⟩ := bS h
 obtain ⟨k27, hk28, h26⟩ := brkS h26
 refine JC_cutP (τ := (Unit) × (Unit)) (fun y => k27 y.1 = some r) (fun y32 => [(1, .p 0 0)]) (fun y32 => [(32, (eSeries x0 (a0_0, c0_0)))]) (fun y32 => []) ?_ (fun y32 h33p => ?_)
 · refine qb (lp Unit hL25 (fun s21 y22 => [(8, vi s21), (7, vi (x0.Points.length : Int)), (6, .v (.slice a0_0 x0.Points.length c0_0)), (1, .p 0 0)]) (fun s21 y22 => [(32, (eSeries x0 (a0_0, c0_0)))]) (fun s21 y22 => []) () [8, 7, 6, 1] [] 1 (fun s21 y22 t23 h29 hd30 => ?_))
   refine qs (qr (oN 1 [(9, vb (decide (s21 < (x0.Points.length : Int))))] [8, 7, 6, 1] ?_))
   refine oe (nt (qs (cC h29 (fun h35 => ?_) (fun h36 => ?_))))
   · refine qk (nt (qs (qb (qs (qr (oN 1 [(10, vi s21)] [8, 7, 6, 1] ?_))))))
     obtain ⟨x37, hx38, h39⟩ := bS h35
     refine oi 3 (fun γ w hs => (hv0_0.kept hs.kept)) hx38 ?_
     refine ol 52 0 (vPoint x37) (fun γ w hs => (hv0_0.kept hs.kept).flatq hx38) ?_
     refine oB 3 [(3, vi s21), (4, .p 1 0)] [8, 7, 6, 1] [(32, (eSeries x0 (a0_0, c0_0))), (52, (ePoint x37))] ?_
     refine oe (nt (qs ?_))
     obtain ⟨p40, hE41, h42⟩ := bS h39
     refine JC_cut (τ := Unit) (fun _ => [(1, .p 0 0), (6, .v (.slice a0_0 x0.Points.length c0_0)), (7, vi (x0.Points.length : Int)), (8, vi s21), (51, vb p40)]) (fun _ => [(32, (eSeries x0 (a0_0, c0_0))), (52, (ePoint x37))]) (fun _ => []) ?_ (fun _ => ?_)
     · refine JC_quiet (by kernel_rfl) (by kernel_rfl) ?_
       refine qN 2 [(14, vi x37.Month)] [3, 4, 8, 7, 6, 1] ?_
       obtain ⟨t43, h44, h45⟩ := bS hE41
       refine q0 (fun γ w hs => c_impl_MonthOk h44) ?_
       refine qN 2 [(17, vb (!t43))] [3, 4, 8, 7, 6, 1] ?_
       refine qS 17 h45 (fun h48 => ?_) (fun h49 => ?_)
       · refine qN 34 [(51, vb true)] [8, 7, 6, 1] ?_
         refine qz ?_
         obtain rfl := sI h48
         exact mt () [1, 6, 7, 8, 51] [] 2
       refine qN 2 [(19, vi x37.Known)] [17, 3, 4, 8, 7, 6, 1] ?_
       obtain ⟨t50, h51, h52⟩ := bS h49
       refine q0 (fun γ w hs => c_impl_MonthOk h51) ?_
       refine qN 3 [(23, vb (!t50))] [3, 4, 8, 7, 6, 1] ?_
       refine qS 23 h52 (fun h55 => ?_) (fun h56 => ?_)
       · refine qN 28 [(51, vb true)] [8, 7, 6, 1] ?_
         refine qz ?_
         obtain rfl := sI h55
         exact mt () [1, 6, 7, 8, 51] [] 2
       refine qN 7 [(30, vb (decide (x37.Known < x37.Month)))] [3, 4, 8, 7, 6, 1] ?_
       refine qS 30 h56 (fun h58 => ?_) (fun h59 => ?_)
       · refine qN 21 [(51, vb true)] [8, 7, 6, 1] ?_
         refine qz ?_
         obtain rfl := sI h58
         exact mt () [1, 6, 7, 8, 51] [] 2
       refine qN 2 [(32, vi x37.Value)] [30, 3, 4, 8, 7, 6, 1] ?_
       obtain ⟨t60, h61, h62⟩ := bS h59
       refine q0 (fun γ w hs => c_impl_within h61) ?_
       refine qN 3 [(36, vb (!t60))] [3, 4, 8, 7, 6, 1] ?_
       refine qS 36 h62 (fun h65 => ?_) (fun h66 => ?_)
       · refine qN 15 [(51, vb true)] [8, 7, 6, 1] ?_
         refine qz ?_
         obtain rfl := sI h65
         exact mt () [1, 6, 7, 8, 51] [] 2
       refine qN 3 [(39, vb (decide (s21 > 0)))] [36, 3, 4, 8, 7, 6, 1] ?_
       refine qS 39 h66 (fun h68 => ?_) (fun h69 => ?_)
       · refine qN 4 [(43, vi (w64 (s21 - 1))), (41, .v (.slice a0_0 x0.Points.length c0_0))] [39, 36, 4, 8, 7, 6, 1] ?_
         obtain ⟨x70, hx71, h72⟩ := bS h68
         refine qi 3 (fun γ w hs => (hv0_0.kept hs.kept)) hx71 ?_
         refine qN 1 [(45, .q a0_0 (Int.toNat (w64 (s21 - 1)) * 3 + 1))] [39, 36, 4, 8, 7, 6, 1] ?_
         refine ql 3 1 (.int .i64 x70.Known) (fun γ w hs => (hv0_0.kept hs.kept).flatq hx71) ?_
         refine qN 5 [(51, vb (decide (x70.Known > x37.Known)))] [8, 7, 6, 1] ?_
         refine qz ?_
         obtain rfl := sI h72
         exact mt () [1, 6, 7, 8, 51] [] 2
       refine qN 12 [(51, vb false)] [8, 7, 6, 1] ?_
       refine qz ?_
       obtain rfl := sI h69
       exact mt () [1, 6, 7, 8, 51] [] 2
     refine nt (cC h42 (fun h74 => ?_) (fun h75 => ?_))
     · refine qs (qr (oN 1 [(2, vb false)] [] ?_))
       refine oe (nt (qe (br (nr (nr ?_)))))
       have h76 := leafR hd30 h74 h26
       refine br (nr (nr ?_))
       obtain rfl := sI h76
       exact re [.bool false]
     refine qk (bn (nt (qr (oN 2 [(8, vi (w64 (s21 + 1)))] [1, 6, 7] ?_))))
     exact oe (ct h75 () [8, 7, 6, 1] [] 1)
   refine qx (nx (nx (bh ?_)))
   have h77 := leafB hd30 h36 h26
   exact mp ((), ()) h77 [1] [] 1
 have h33 := (congrFun hk28 _).symm.trans h33p
 refine nt (qs (qr (oN 5 [(2, vb (decide ((x0.Points.length : Int) ≤ 200)))] [] ?_)))
 refine oe (nt (qe ?_))
 obtain rfl := sI h33
 exact re [.bool (decide ((x0.Points.length : Int) ≤ 200))]

theorem c_impl_SpellsOk {W : World} {x0 : List Spell} {a0_0 : Option Addr} {c0_0 : Nat} {r : Bool} (h : impl_SpellsOk x0 = some r) (hv0_0 : SlView W x0 a0_0 c0_0) :
    Gives0 Tryz.prog 147 #[.slice a0_0 x0.length c0_0] W (.bool r) := by
 unfold impl_SpellsOk at h
 refine en Tryz.func147 Tryz.ntmps147 ?_
 refine qs (qr (oN 1 [] [0] ?_))
 refine oe (nt (qs (qs (qr (oN 3 [(7, vi 0), (6, vi (x0.length : Int)), (5, .v (.slice a0_0 x0.length c0_0))] [0] ?_)))))
 refine oe (nt ?_)
 obtain ⟨r24, hL25, h26⟩ := bS h
 obtain ⟨k27, hk28, h26⟩ := brkS h26
 refine JC_cutP (τ := (Unit) × (Unit)) (fun y => k27 y.1 = some r) (fun y32 => [(0, .v (.slice a0_0 x0.length c0_0))]) (fun y32 => []) (fun y32 => []) ?_ (fun y32 h33p => ?_)
 · refine qb (lp Unit hL25 (fun s21 y22 => [(7, vi s21), (6, vi (x0.length : Int)), (5, .v (.slice a0_0 x0.length c0_0)), (0, .v (.slice a0_0 x0.length c0_0))]) (fun s21 y22 => []) (fun s21 y22 => []) () [7, 6, 5, 0] [] 0 (fun s21 y22 t23 h29 hd30 => ?_))
   refine qs (qr (oN 1 [(8, vb (decide (s21 < (x0.length : Int))))] [7, 6, 5, 0] ?_))
   refine oe (nt (qs (cC h29 (fun h35 => ?_) (fun h36 => ?_))))
   · refine qk (nt (qs (qb (qs (qr (oN 1 [(9, vi s21)] [7, 6, 5, 0] ?_))))))
     obtain ⟨x37, hx38, h39⟩ := bS h35
     refine oi 4 (fun γ w hs => (hv0_0.kept hs.kept)) hx38 ?_
     refine ol 156 0 (vSpell x37) (fun γ w hs => (hv0_0.kept hs.kept).flatq hx38) ?_
     refine oB 3 [(3, vi s21), (4, .p 0 0)] [7, 6, 5, 0] [(156, (eSpell x37))] ?_
     refine oe (nt (qs ?_))
     obtain ⟨p40, hE41, h42⟩ := bS h39
     refine JC_cut (τ := Unit) (fun _ => [(0, .v (.slice a0_0 x0.length c0_0)), (5, .v (.slice a0_0 x0.length c0_0)), (6, vi (x0.length : Int)), (7, vi s21), (38, vb p40)]) (fun _ => [(156, (eSpell x37))]) (fun _ => []) ?_ (fun _ => ?_)
     · refine JC_quiet (by kernel_rfl) (by kernel_rfl) ?_
       refine qN 4 [(15, vi x37.To), (13, vi x37.From)] [3, 4, 7, 6, 5, 0] ?_
       obtain ⟨t43, h44, h45⟩ := bS hE41
       refine q0 (fun γ w hs => c_impl_isSpan h44) ?_
       refine qN 2 [(18, vb (!t43))] [3, 4, 7, 6, 5, 0] ?_
       refine qS 18 h45 (fun h48 => ?_) (fun h49 => ?_)
       · refine qN 20 [(38, vb true)] [7, 6, 5, 0] ?_
         refine qz ?_
         obtain rfl := sI h48
         exact mt () [0, 5, 6, 7, 38] [] 1
       refine qN 2 [(20, vi x37.Percent)] [18, 3, 4, 7, 6, 5, 0] ?_
       obtain ⟨t50, h51, h52⟩ := bS h49
       refine q0 (fun γ w hs => c_impl_within h51) ?_
       refine qN 3 [(24, vb (!t50))] [3, 4, 7, 6, 5, 0] ?_
       refine qS 24 h52 (fun h55 => ?_) (fun h56 => ?_)
       · refine qN 14 [(38, vb true)] [7, 6, 5, 0] ?_
         refine qz ?_
         obtain rfl := sI h55
         exact mt () [0, 5, 6, 7, 38] [] 1
       refine qN 3 [(27, vb (decide (s21 > 0)))] [24, 3, 4, 7, 6, 5, 0] ?_
       refine qS 27 h56 (fun h58 => ?_) (fun h59 => ?_)
       · refine qN 5 [(32, vi (w64 (s21 - 1))), (30, .v (.slice a0_0 x0.length c0_0)), (29, vi x37.From)] [27, 24, 7, 6, 5, 0] ?_
         obtain ⟨x60, hx61, h62⟩ := bS h58
         refine qi 4 (fun γ w hs => (hv0_0.kept hs.kept)) hx61 ?_
         refine qN 1 [(34, .q a0_0 (Int.toNat (w64 (s21 - 1)) * 4 + 1))] [29, 27, 24, 7, 6, 5, 0] ?_
         refine ql 3 1 (.int .i64 x60.To) (fun γ w hs => (hv0_0.kept hs.kept).flatq hx61) ?_
         refine qN 3 [(38, vb (decide (x37.From < x60.To)))] [7, 6, 5, 0] ?_
         refine qz ?_
         obtain rfl := sI h62
         exact mt () [0, 5, 6, 7, 38] [] 1
       refine qN 11 [(38, vb false)] [7, 6, 5, 0] ?_
       refine qz ?_
       obtain rfl := sI h59
       exact mt () [0, 5, 6, 7, 38] [] 1
     refine nt (cC h42 (fun h64 => ?_) (fun h65 => ?_))
     · refine qs (qr (oN 1 [(2, vb false)] [] ?_))
       refine oe (nt (qe (br (nr (nr ?_)))))
       have h66 := leafR hd30 h64 h26
       refine br (nr (nr ?_))
       obtain rfl := sI h66
       exact re [.bool false]
     refine qk (bn (nt (qr (oN 2 [(7, vi (w64 (s21 + 1)))] [0, 5, 6] ?_))))
     exact oe (ct h65 () [7, 6, 5, 0] [] 0)
   refine qx (nx (nx (bh ?_)))
   have h67 := leafB hd30 h36 h26
   exact mp ((), ()) h67 [0] [] 0
 have h33 := (congrFun hk28 _).symm.trans h33p
 refine nt (qs (qr (oN 4 [(2, vb (decide ((x0.length : Int) ≤ 30)))] [] ?_)))
 refine oe (nt (qe ?_))
 obtain rfl := sI h33
 exact re [.bool (decide ((x0.length : Int) ≤ 30))]

theorem c_impl_StatusAfter {W : World} {x0 : Int} {x1 : Int} {r : Int × Bool} (h : impl_StatusAfter x0 x1 = some r)  :
    Gives0 Tryz.prog 150 #[.int .i64 x0, .int .i64 x1] W (.tuple #[.int .i64 r.1, .bool r.2]) := by
 unfold impl_StatusAfter at h
 refine en Tryz.func150 Tryz.ntmps150 ?_
 refine qs (qr (oN 2 [] [0, 1] ?_))
 refine oe (nt (qs (qb (qs ?_))))
 obtain ⟨p21, hE22, h23⟩ := bS h
 refine JC_cut (τ := Unit) (fun _ => [(0, vi x0), (1, vi x1), (6, vb p21)]) (fun _ => []) (fun _ => []) ?_ (fun _ => ?_)
 · refine qr (oN 3 [(9, vb (x1 == 1))] [0, 1] ?_)
   refine oS 9 hE22 (fun h25 => ?_) (fun h26 => ?_)
   · refine oN 3 [(12, vb (x0 == 0))] [9, 0, 1] ?_
     refine oS 12 h25 (fun h28 => ?_) (fun h29 => ?_)
     · refine oN 5 [(6, vb true)] [0, 1] ?_
       refine oe ?_
       obtain rfl := sI h28
       exact mt () [0, 1, 6] [] 0
     refine oN 5 [(6, vb (x0 == 2))] [0, 1] ?_
     refine oe ?_
     obtain rfl := sI h29
     exact mt () [0, 1, 6] [] 0
   refine oN 8 [(6, vb false)] [0, 1] ?_
   refine oe ?_
   obtain rfl := sI h26
   exact mt () [0, 1, 6] [] 0
 refine nt (cC h23 (fun h65 => ?_) (fun h66 => ?_))
 · refine qs (qr (oN 2 [(5, vb true), (4, vi 1)] [] ?_))
   refine oe (nt (qe (br (nr ?_))))
   obtain rfl := sI h65
   exact re [.int .i64 1, .bool true]
 refine qs ?_
 obtain ⟨p67, hE68, h69⟩ := bS h66
 refine JC_cut (τ := Unit) (fun _ => [(0, vi x0), (1, vi x1), (17, vb p67)]) (fun _ => []) (fun _ => []) ?_ (fun _ => ?_)
 · refine qr (oN 3 [(20, vb (x1 == 2))] [0, 1] ?_)
   refine oS 20 hE68 (fun h71 => ?_) (fun h72 => ?_)
   · refine oN 4 [(17, vb (x0 == 1))] [0, 1] ?_
     refine oe ?_
     obtain rfl := sI h71
     exact mt () [0, 1, 17] [] 0
   refine oN 4 [(17, vb false)] [0, 1] ?_
   refine oe ?_
   obtain rfl := sI h72
   exact mt () [0, 1, 17] [] 0
 refine nt (cC h69 (fun h99 => ?_) (fun h100 => ?_))
 · refine qs (qr (oN 2 [(5, vb true), (4, vi 2)] [] ?_))
   refine oe (nt (qe (br (nr ?_))))
   obtain rfl := sI h99
   exact re [.int .i64 2, .bool true]
 refine qs ?_
 obtain ⟨p101, hE102, h103⟩ := bS h100
 refine JC_cut (τ := Unit) (fun _ => [(0, vi x0), (1, vi x1), (24, vb p101)]) (fun _ => []) (fun _ => []) ?_ (fun _ => ?_)
 · refine qr (oN 3 [(27, vb (x1 == 3))] [0, 1] ?_)
   refine oS 27 hE102 (fun h105 => ?_) (fun h106 => ?_)
   · refine oN 3 [(30, vb (x0 == 1))] [27, 0, 1] ?_
     refine oS 30 h105 (fun h108 => ?_) (fun h109 => ?_)
     · refine oN 5 [(24, vb true)] [0, 1] ?_
       refine oe ?_
       obtain rfl := sI h108
       exact mt () [0, 1, 24] [] 0
     refine oN 5 [(24, vb (x0 == 2))] [0, 1] ?_
     refine oe ?_
     obtain rfl := sI h109
     exact mt () [0, 1, 24] [] 0
   refine oN 8 [(24, vb false)] [0, 1] ?_
   refine oe ?_
   obtain rfl := sI h106
   exact mt () [0, 1, 24] [] 0
 refine nt (cC h103 (fun h124 => ?_) (fun h125 => ?_))
 · refine qs (qr (oN 2 [(5, vb true), (4, vi 3)] [] ?_))
   refine oe (nt (qe (br (nr ?_))))
   obtain rfl := sI h124
   exact re [.int .i64 3, .bool true]
 refine qs ?_
 obtain ⟨p126, hE127, h128⟩ := bS h125
 refine JC_cut (τ := Unit) (fun _ => [(0, vi x0), (35, vb p126)]) (fun _ => []) (fun _ => []) ?_ (fun _ => ?_)
 · refine qr (oN 3 [(38, vb (x1 == 4))] [0] ?_)
   refine oS 38 hE127 (fun h130 => ?_) (fun h131 => ?_)
   · refine oN 1 [(39, vi x0)] [38, 0] ?_
     obtain ⟨t132, h133, h134⟩ := bS h130
     refine k0 (fun γ w hs => c_impl_within h133) ?_
     refine oN 2 [(35, vb t132)] [0] ?_
     refine oe ?_
     obtain rfl := sI h134
     exact mt () [0, 35] [] 0
   refine oN 4 [(35, vb false)] [0] ?_
   refine oe ?_
   obtain rfl := sI h131
   exact mt () [0, 35] [] 0
 refine nt (cC h128 (fun h137 => ?_) (fun h138 => ?_))
 · refine qs (qr (oN 2 [(5, vb true), (4, vi 4)] [] ?_))
   refine oe (nt (qe (br (nr ?_))))
   obtain rfl := sI h137
   exact re [.int .i64 4, .bool true]
 refine qk (bn (nt (qs (qr (oN 3 [(5, vb false), (4, vi x0)] [] ?_)))))
 refine oe (nt (qe ?_))
 obtain rfl := sI h138
 exact re [.int .i64 x0, .bool false]

theorem c_impl_EventsOk {W : World} {x0 : List Event} {a0_0 : Option Addr} {c0_0 : Nat} {r : Bool} (h : impl_EventsOk x0 = some r) (hv0_0 : SlView W x0 a0_0 c0_0) :
    Gives0 Tryz.prog 148 #[.slice a0_0 x0.length c0_0] W (.bool r) := by
 unfold impl_EventsOk at h
 refine en Tryz.func148 Tryz.ntmps148 ?_
 refine qs (qr (oN 1 [] [0] ?_))
 refine oe (nt (qs (qr (oN 2 [(3, vi 0)] [0] ?_))))
 refine oe (nt (qs (qs (qr (oN 3 [(9, vi 0), (8, vi (x0.length : Int)), (7, .v (.slice a0_0 x0.length c0_0))] [3, 0] ?_)))))
 refine oe (nt ?_)
 obtain ⟨r24, hL25, h26⟩ := bS h
 obtain ⟨k27, hk28, h26⟩ := brkS h26
 refine JC_cutP (τ := (Unit) × (Unit)) (fun y => k27 y.1 = some r) (fun y32 => [(0, .v (.slice a0_0 x0.length c0_0))]) (fun y32 => []) (fun y32 => []) ?_ (fun y32 h33p => ?_)
 · refine qb (lp Unit hL25 (fun s21 y22 => [(9, vi s21.1), (8, vi (x0.length : Int)), (7, .v (.slice a0_0 x0.length c0_0)), (3, vi s21.2), (0, .v (.slice a0_0 x0.length c0_0))]) (fun s21 y22 => []) (fun s21 y22 => []) () [9, 8, 7, 3, 0] [] 0 (fun s21 y22 t23 h29 hd30 => ?_))
   refine qs (qr (oN 1 [(10, vb (decide (s21.1 < (x0.length : Int))))] [9, 8, 7, 3, 0] ?_))
   refine oe (nt (qs (cC h29 (fun h35 => ?_) (fun h36 => ?_))))
   · refine qk (nt (qs (qb (qs (qr (oN 1 [(11, vi s21.1)] [9, 8, 7, 3, 0] ?_))))))
     obtain ⟨x37, hx38, h39⟩ := bS h35
     refine oi 2 (fun γ w hs => (hv0_0.kept hs.kept)) hx38 ?_
     refine ol 158 0 (vEvent x37) (fun γ w hs => (hv0_0.kept hs.kept).flatq hx38) ?_
     refine oB 3 [(5, vi s21.1), (6, .p 0 0)] [9, 8, 7, 3, 0] [(158, (eEvent x37))] ?_
     refine oe (nt (qs (qr (oN 3 [(17, vi x37.Kind), (15, vi s21.2)] [5, 6, 9, 8, 7, 0] ?_))))
     obtain ⟨t40, h41, h42⟩ := bS h39
     refine k0 (fun γ w hs => c_impl_StatusAfter h41) ?_
     refine oN 5 [(4, vb t40.2), (3, vi t40.1)] [5, 6, 9, 8, 7, 0] ?_
     refine oe (nt (qs ?_))
     obtain ⟨p44, hE45, h46⟩ := bS h42
     refine JC_cut (τ := Unit) (fun _ => [(0, .v (.slice a0_0 x0.length c0_0)), (3, vi t40.1), (7, .v (.slice a0_0 x0.length c0_0)), (8, vi (x0.length : Int)), (9, vi s21.1), (43, vb p44)]) (fun _ => [(158, (eEvent x37))]) (fun _ => []) ?_ (fun _ => ?_)
     · refine JC_quiet (by kernel_rfl) (by kernel_rfl) ?_
       refine qN 3 [(23, vb (!t40.2))] [3, 5, 6, 9, 8, 7, 0] ?_
       refine qS 23 hE45 (fun h48 => ?_) (fun h49 => ?_)
       · refine qN 20 [(43, vb true)] [3, 9, 8, 7, 0] ?_
         refine qz ?_
         obtain rfl := sI h48
         exact mt () [0, 3, 7, 8, 9, 43] [] 1
       refine qN 2 [(25, vi x37.Month)] [23, 3, 5, 6, 9, 8, 7, 0] ?_
       obtain ⟨t50, h51, h52⟩ := bS h49
       refine q0 (fun γ w hs => c_impl_MonthOk h51) ?_
       refine qN 3 [(29, vb (!t50))] [3, 5, 6, 9, 8, 7, 0] ?_
       refine qS 29 h52 (fun h55 => ?_) (fun h56 => ?_)
       · refine qN 14 [(43, vb true)] [3, 9, 8, 7, 0] ?_
         refine qz ?_
         obtain rfl := sI h55
         exact mt () [0, 3, 7, 8, 9, 43] [] 1
       refine qN 3 [(32, vb (decide (s21.1 > 0)))] [29, 3, 5, 6, 9, 8, 7, 0] ?_
       refine qS 32 h56 (fun h58 => ?_) (fun h59 => ?_)
       · refine qN 3 [(35, vi (w64 (s21.1 - 1))), (33, .v (.slice a0_0 x0.length c0_0))] [32, 29, 3, 6, 9, 8, 7, 0] ?_
         obtain ⟨x60, hx61, h62⟩ := bS h58
         refine qi 2 (fun γ w hs => (hv0_0.kept hs.kept)) hx61 ?_
         refine qN 1 [(37, .q a0_0 (Int.toNat (w64 (s21.1 - 1)) * 2 + 1))] [32, 29, 3, 6, 9, 8, 7, 0] ?_
         refine ql 3 1 (.int .i64 x60.Month) (fun γ w hs => (hv0_0.kept hs.kept).flatq hx61) ?_
         refine qN 5 [(43, vb (decide (x60.Month ≥ x37.Month)))] [3, 9, 8, 7, 0] ?_
         refine qz ?_
         obtain rfl := sI h62
         exact mt () [0, 3, 7, 8, 9, 43] [] 1
       refine qN 11 [(43, vb false)] [3, 9, 8, 7, 0] ?_
       refine qz ?_
       obtain rfl := sI h59
       exact mt () [0, 3, 7, 8, 9, 43] [] 1
     refine nt (cC h46 (fun h64 => ?_) (fun h65 => ?_))
     · refine qs (qr (oN 1 [(2, vb false)] [] ?_))
       refine oe (nt (qe (br (nr (nr ?_)))))
       have h66 := leafR hd30 h64 h26
       refine br (nr (nr ?_))
       obtain rfl := sI h66
       exact re [.bool false]
     refine qk (bn (nt (qr (oN 2 [(9, vi (w64 (s21.1 + 1)))] [0, 3, 7, 8] ?_))))
     exact oe (ct h65 () [9, 8, 7, 3, 0] [] 0)
   refine qx (nx (nx (bh ?_)))
   have h67 := leafB hd30 h36 h26
   exact mp ((), ()) h67 [0] [] 0
 have h33 := (congrFun hk28 _).symm.trans h33p
 refine nt (qs (qr (oN 4 [(2, vb (decide ((x0.length : Int) ≤ 30)))] [] ?_)))
 refine oe (nt (qe ?_))
 obtain rfl := sI h33
 exact re [.bool (decide ((x0.length : Int) ≤ 30))]

theorem c_impl_MemberOk {W : World} {x0 : Member} {b0 : AC × AC} {r : Bool} (h : impl_MemberOk x0 = some r) (hv0_0 : SlView W x0.Spells b0.1.1 b0.1.2) (hv0_1 : SlView W x0.Events b0.2.1 b0.2.2) :
    Gives0 Tryz.prog 97 #[vMember x0 b0] W (.bool r) := by
 unfold impl_MemberOk at h
 refine en Tryz.func97 Tryz.ntmps97 ?_
 refine qs (qr (oB 2 [(1, .p 0 0)] [] [(36, (eMember x0 b0))] ?_))
 refine oe (nt (qs ?_))
 obtain ⟨p21, hE22, h23⟩ := bS h
 refine JC_cut (τ := Unit) (fun _ => [(2, vb p21)]) (fun _ => [(36, (eMember x0 b0))]) (fun _ => []) ?_ (fun _ => ?_)
 · refine qr (oN 2 [(4, vi x0.Birth)] [1] ?_)
   obtain ⟨t24, h25, h26⟩ := bS hE22
   refine k0 (fun γ w hs => c_impl_MonthOk h25) ?_
   refine oN 1 [(6, vb t24)] [1] ?_
   refine oS 6 h26 (fun h29 => ?_) (fun h30 => ?_)
   · refine oN 2 [(8, vi x0.Joined)] [6, 1] ?_
     obtain ⟨t31, h32, h33⟩ := bS h29
     refine k0 (fun γ w hs => c_impl_MonthOk h32) ?_
     refine oN 2 [(11, vb t31)] [1] ?_
     refine oS 11 h33 (fun h36 => ?_) (fun h37 => ?_)
     · refine oN 7 [(18, vb (decide (x0.Birth ≤ x0.Joined)))] [1] ?_
       refine oS 18 h36 (fun h39 => ?_) (fun h40 => ?_)
       · refine oN 2 [(20, .v (.slice b0.1.1 x0.Spells.length b0.1.2))] [18, 1] ?_
         obtain ⟨t41, h42, h43⟩ := bS h39
         refine k0 (fun γ w hs => c_impl_SpellsOk h42 (hv0_0.kept hs.kept)) ?_
         refine oN 2 [(23, vb t41)] [1] ?_
         refine oS 23 h43 (fun h46 => ?_) (fun h47 => ?_)
         · refine oN 2 [(25, .v (.slice b0.2.1 x0.Events.length b0.2.2))] [23] ?_
           obtain ⟨t48, h49, h50⟩ := bS h46
           refine k0 (fun γ w hs => c_impl_EventsOk h49 (hv0_1.kept hs.kept)) ?_
           refine oN 2 [(2, vb t48)] [] ?_
           refine oe ?_
           obtain rfl := sI h50
           exact mt () [2] [] 1
         refine oN 5 [(2, vb false)] [] ?_
         refine oe ?_
         obtain rfl := sI h47
         exact mt () [2] [] 1
       refine oN 10 [(2, vb false)] [] ?_
       refine oe ?_
       obtain rfl := sI h40
       exact mt () [2] [] 1
     refine oN 17 [(2, vb false)] [] ?_
     refine oe ?_
     obtain rfl := sI h37
     exact mt () [2] [] 1
   refine oN 22 [(2, vb false)] [] ?_
   refine oe ?_
   obtain rfl := sI h30
   exact mt () [2] [] 1
 refine nt (qe ?_)
 obtain rfl := sI h23
 exact re [.bool p21]

theorem c_impl_CaseOk {W : World} {x0 : Case} {b0 : AC × AC × AC × AC × AC} {r : Bool} (h : impl_CaseOk x0 = some r) (hv0_0 : SlView W x0.Book.Rules b0.1.1 b0.1.2) (hv0_1 : SlView W x0.Store.Facts b0.2.1.1 b0.2.1.2) (hv0_2 : SlView W x0.Series.Points b0.2.2.1.1 b0.2.2.1.2) (hv0_3 : SlView W x0.Member.Spells b0.2.2.2.1.1 b0.2.2.2.1.2) (hv0_4 : SlView W x0.Member.Events b0.2.2.2.2.1 b0.2.2.2.2.2) :
    Gives0 Tryz.prog 55 #[vCase x0 b0] W (.bool r) := by
 unfold impl_CaseOk at h
 refine en Tryz.func55 Tryz.ntmps55 ?_
 refine qs (qr (oB 2 [(1, .p 0 0)] [] [(38, (eCase x0 b0))] ?_))
 refine oe (nt (qs ?_))
 obtain ⟨p21, hE22, h23⟩ := bS h
 refine JC_cut (τ := Unit) (fun _ => [(2, vb p21)]) (fun _ => [(38, (eCase x0 b0))]) (fun _ => []) ?_ (fun _ => ?_)
 · refine qr (oN 2 [(4, .v (vBook x0.Book b0.1))] [1] ?_)
   obtain ⟨t24, h25, h26⟩ := bS hE22
   refine k0 (fun γ w hs => c_impl_BookOk h25 (hv0_0.kept hs.kept)) ?_
   refine oN 1 [(6, vb t24)] [1] ?_
   refine oS 6 h26 (fun h29 => ?_) (fun h30 => ?_)
   · refine oN 2 [(8, .v (vStore x0.Store b0.2.1))] [6, 1] ?_
     obtain ⟨t31, h32, h33⟩ := bS h29
     refine k0 (fun γ w hs => c_impl_StoreOk h32 (hv0_1.kept hs.kept)) ?_
     refine oN 2 [(11, vb t31)] [1] ?_
     refine oS 11 h33 (fun h36 => ?_) (fun h37 => ?_)
     · refine oN 2 [(13, .v (vSeries x0.Series b0.2.2.1))] [11, 1] ?_
       obtain ⟨t38, h39, h40⟩ := bS h36
       refine k0 (fun γ w hs => c_impl_SeriesOk h39 (hv0_2.kept hs.kept)) ?_
       refine oN 2 [(16, vb t38)] [1] ?_
       refine oS 16 h40 (fun h43 => ?_) (fun h44 => ?_)
       · refine oN 2 [(18, .v (vMember x0.Member b0.2.2.2))] [16] ?_
         obtain ⟨t45, h46, h47⟩ := bS h43
         refine k0 (fun γ w hs => c_impl_MemberOk (b0 := b0.2.2.2) h46 (hv0_3.kept hs.kept) (hv0_4.kept hs.kept)) ?_
         refine oN 2 [(2, vb t45)] [] ?_
         refine oe ?_
         obtain rfl := sI h47
         exact mt () [2] [] 1
       refine oN 5 [(2, vb false)] [] ?_
       refine oe ?_
       obtain rfl := sI h44
       exact mt () [2] [] 1
     refine oN 10 [(2, vb false)] [] ?_
     refine oe ?_
     obtain rfl := sI h37
     exact mt () [2] [] 1
   refine oN 15 [(2, vb false)] [] ?_
   refine oe ?_
   obtain rfl := sI h30
   exact mt () [2] [] 1
 refine nt (qe ?_)
 obtain rfl := sI h23
 exact re [.bool p21]

theorem c_impl_now {W : World} {x0 : Office} {b0 : AC × AC × AC × AC × AC × AC} {r : Int} (h : impl_now x0 = some r) (hv0_0 : SlView W x0.Case.Book.Rules b0.1.1 b0.1.2) (hv0_1 : SlView W x0.Case.Store.Facts b0.2.1.1 b0.2.1.2) (hv0_2 : SlView W x0.Case.Series.Points b0.2.2.1.1 b0.2.2.1.2) (hv0_3 : SlView W x0.Case.Member.Spells b0.2.2.2.1.1 b0.2.2.2.1.2) (hv0_4 : SlView W x0.Case.Member.Events b0.2.2.2.2.1.1 b0.2.2.2.2.1.2) (hv0_5 : SlView W x0.Paid b0.2.2.2.2.2.1 b0.2.2.2.2.2.2) :
    Gives0 Tryz.prog 52 #[vOffice x0 b0] W (.int .i64 r) := by
 unfold impl_now at h
 refine en Tryz.func52 Tryz.ntmps52 ?_
 refine qs (qr (oB 2 [(1, .p 0 0)] [] [(41, (eOffice x0 b0))] ?_))
 refine oe (nt (qs (qr (oN 7 [(2, vi (w64 (x0.Start + (x0.Paid.length : Int))))] [] ?_))))
 refine oe (nt (qe ?_))
 obtain rfl := sI h
 exact re [.int .i64 (w64 (x0.Start + (x0.Paid.length : Int)))]

theorem c_impl_allWithin_1 {W : World} {x0 : Int} {gf_0 : Nat} {zf_0 : Int} {gf_1 : Nat} {zf_1 : Int} {r : Bool} (h : impl_allWithin_1 x0 zf_0 zf_1 = some r) (hcf_0 : CellsAt W (some ⟨gf_0, 0, none⟩) 0 [.int .i64 zf_0]) (hcf_1 : CellsAt W (some ⟨gf_1, 0, none⟩) 0 [.int .i64 zf_1]) :
    Gives0 Tryz.prog 100 #[.int .i64 x0, .pointer (some ⟨gf_0, 0, none⟩), .pointer (some ⟨gf_1, 0, none⟩)] W (.bool r) := by
 unfold impl_allWithin_1 at h
 refine enterD [vi x0, .q (some ⟨gf_0, 0, none⟩) (0), .q (some ⟨gf_1, 0, none⟩) (0)] (args := [.int .i64 x0, .pointer (some ⟨gf_0, 0, none⟩), .pointer (some ⟨gf_1, 0, none⟩)]) (by kernel_rfl) (by kernel_rfl) Tryz.func100 rfl Tryz.ntmps100 (by kernel_rfl) ?_
 refine qs (qr (oN 1 [] [0, 1, 2] ?_))
 refine oe (nt (qs (qr (oN 1 [(5, vi x0)] [1, 2] ?_))))
 refine ol 3 0 (.int .i64 zf_0) (fun γ w hs => ⟨by simp, hcf_0.kept hs.kept⟩) ?_
 refine ol 3 0 (.int .i64 zf_1) (fun γ w hs => ⟨by simp, hcf_1.kept hs.kept⟩) ?_
 obtain ⟨t21, h22, h23⟩ := bS h
 refine k0 (fun γ w hs => c_impl_within h22) ?_
 refine oN 2 [(4, vb (!t21))] [] ?_
 refine oe (nt (qe ?_))
 obtain rfl := sI h23
 exact re [.bool (!t21)]

theorem c_slices_IndexFunc_int__impl_allWithin_1 {W : World} {x0 : List Int} {a0_0 : Option Addr} {c0_0 : Nat} {g1_0 : Nat} {z1_0 : Int} {g1_1 : Nat} {z1_1 : Int} {r : Int} (h : slices_IndexFunc_int__impl_allWithin_1 x0 z1_0 z1_1 = some r) (hv0_0 : SlView W x0 a0_0 c0_0) (hc1_0 : CellsAt W (some ⟨g1_0, 0, none⟩) 0 [.int .i64 z1_0]) (hc1_1 : CellsAt W (some ⟨g1_1, 0, none⟩) 0 [.int .i64 z1_1]) :
    Gives0 Tryz.prog 149 #[.slice a0_0 x0.length c0_0, .func (.func 100) #[] #[.pointer (some ⟨g1_0, 0, none⟩), .pointer (some ⟨g1_1, 0, none⟩)]] W (.int .i64 r) := by
 unfold slices_IndexFunc_int__impl_allWithin_1 at h
 refine en Tryz.func149 Tryz.ntmps149 ?_
 refine qs (qr (oN 1 [] [0, 1] ?_))
 refine oe (nt (qs (qs (qr (oN 3 [(8, vi 0), (7, vi (x0.length : Int))] [0, 1] ?_)))))
 refine oe (nt ?_)
 obtain ⟨r24, hL25, h26⟩ := bS h
 obtain ⟨k27, hk28, h26⟩ := brkS h26
 refine JC_cutP (τ := (Unit) × (Unit)) (fun y => k27 y.1 = some r) (fun y32 => []) (fun y32 => []) (fun y32 => []) ?_ (fun y32 h33p => ?_)
 · refine qb (lp Unit hL25 (fun s21 y22 => [(8, vi s21), (7, vi (x0.length : Int)), (0, .v (.slice a0_0 x0.length c0_0)), (1, .v (.func (.func 100) #[] #[.pointer (some ⟨g1_0, 0, none⟩), .pointer (some ⟨g1_1, 0, none⟩)]))]) (fun s21 y22 => []) (fun s21 y22 => []) () [8, 7, 0, 1] [] 0 (fun s21 y22 t23 h29 hd30 => ?_))
   refine qs (qr (oN 1 [(9, vb (decide (s21 < (x0.length : Int))))] [8, 7, 0, 1] ?_))
   refine oe (nt (qs (cC h29 (fun h35 => ?_) (fun h36 => ?_))))
   · refine qk (nt (qs (qb (qs (qr (oN 2 [(5, vi s21)] [8, 7, 0, 1] ?_))))))
     refine oe (nt (qs (qr (oN 3 [(13, vi s21), (12, .v (.slice a0_0 x0.length c0_0)), (11, .v (.func (.func 100) #[] #[.pointer (some ⟨g1_0, 0, none⟩), .pointer (some ⟨g1_1, 0, none⟩)]))] [5, 8, 7, 0, 1] ?_))))
     obtain ⟨x37, hx38, h39⟩ := bS h35
     refine oi 1 (fun γ w hs => (hv0_0.kept hs.kept)) hx38 ?_
     refine ol 3 0 (.int .i64 x37) (fun γ w hs => (hv0_0.kept hs.kept).flatq hx38) ?_
     obtain ⟨t40, h41, h42⟩ := bS h39
     refine k0 (fun γ w hs => c_impl_allWithin_1 h41 (hc1_0.kept hs.kept) (hc1_1.kept hs.kept)) ?_
     refine oe (nt (cC h42 (fun h45 => ?_) (fun h46 => ?_)))
     · refine qs (qr (oN 2 [(4, vi s21)] [] ?_))
       refine oe (nt (qe (br (nr (nr ?_)))))
       have h47 := leafR hd30 h45 h26
       refine br (nr (nr ?_))
       obtain rfl := sI h47
       exact re [.int .i64 s21]
     refine qk (bn (nt (qr (oN 2 [(8, vi (w64 (s21 + 1)))] [7, 0, 1] ?_))))
     exact oe (ct h46 () [8, 7, 0, 1] [] 0)
   refine qx (nx (nx (bh ?_)))
   have h48 := leafB hd30 h36 h26
   exact mp ((), ()) h48 [] [] 0
 have h33 := (congrFun hk28 _).symm.trans h33p
 refine nt (qs (qr (oN 1 [(4, vi (-1))] [] ?_)))
 refine oe (nt (qe ?_))
 obtain rfl := sI h33
 exact re [.int .i64 (-1)]

theorem c_slices_ContainsFunc_int__impl_allWithin_1 {W : World} {x0 : List Int} {a0_0 : Option Addr} {c0_0 : Nat} {g1_0 : Nat} {z1_0 : Int} {g1_1 : Nat} {z1_1 : Int} {r : Bool} (h : slices_ContainsFunc_int__impl_allWithin_1 x0 z1_0 z1_1 = some r) (hv0_0 : SlView W x0 a0_0 c0_0) (hc1_0 : CellsAt W (some ⟨g1_0, 0, none⟩) 0 [.int .i64 z1_0]) (hc1_1 : CellsAt W (some ⟨g1_1, 0, none⟩) 0 [.int .i64 z1_1]) :
    Gives0 Tryz.prog 99 #[.slice a0_0 x0.length c0_0, .func (.func 100) #[] #[.pointer (some ⟨g1_0, 0, none⟩), .pointer (some ⟨g1_1, 0, none⟩)]] W (.bool r) := by
 unfold slices_ContainsFunc_int__impl_allWithin_1 at h
 refine en Tryz.func99 Tryz.ntmps99 ?_
 refine qs (qr (oN 1 [] [0, 1] ?_))
 refine oe (nt (qs (qr (oN 2 [(6, .v (.func (.func 100) #[] #[.pointer (some ⟨g1_0, 0, none⟩), .pointer (some ⟨g1_1, 0, none⟩)])), (5, .v (.slice a0_0 x0.length c0_0))] [] ?_))))
 obtain ⟨t21, h22, h23⟩ := bS h
 refine k0 (fun γ w hs => c_slices_IndexFunc_int__impl_allWithin_1 h22 (hv0_0.kept hs.kept) (hc1_0.kept hs.kept) (hc1_1.kept hs.kept)) ?_
 refine oN 2 [(4, vb (decide (t21 ≥ 0)))] [] ?_
 refine oe (nt (qe ?_))
 obtain rfl := sI h23
 exact re [.bool (decide (t21 ≥ 0))]

theorem c_impl_allWithin {W : World} {x0 : List Int} {a0_0 : Option Addr} {c0_0 : Nat} {x1 : Int} {x2 : Int} {r : Bool} (h : impl_allWithin x0 x1 x2 = some r) (hv0_0 : SlView W x0 a0_0 c0_0) :
    Gives0 Tryz.prog 57 #[.slice a0_0 x0.length c0_0, .int .i64 x1, .int .i64 x2] W (.bool r) := by
 unfold impl_allWithin at h
 refine en Tryz.func57 Tryz.ntmps57 ?_
 refine qs (qr (oB 3 [(5, .p 1 0), (4, .p 0 0)] [0] [(3, [.int .i64 x1]), (3, [.int .i64 x2])] ?_))
 refine oe (nt (qs (qr (oN 1 [(7, .v (.slice a0_0 x0.length c0_0))] [5, 4] ?_))))
 refine JO_mkfunc rfl (by kernel_rfl) (x := .f 100 [(0, 0), (1, 0)]) (by kernel_rfl) rfl ?_
 obtain ⟨t21, h22, h23⟩ := bS h
 refine JO_callD0 rfl (by kernel_rfl) (f := 99) (args := fun γ => #[.slice a0_0 x0.length c0_0, .func (.func 100) #[] #[.pointer (some ⟨γ.getD 0 0, 0, none⟩), .pointer (some ⟨γ.getD 1 0, 0, none⟩)]]) (fun γ => by kernel_rfl) (x := .bool t21) (fun γ w hs => (by have vv := c_slices_ContainsFunc_int__impl_allWithin_1 (W := w) h22 (hv0_0.kept hs.kept) (hs.boxCells (k := 0) (e := 3) (by kernel_rfl)) (hs.boxCells (k := 1) (e := 3) (by kernel_rfl)); exact vv)) rfl ?_
 refine oN 2 [(6, vb (!t21))] [] ?_
 refine oe (nt (qe ?_))
 obtain rfl := sI h23
 exact re [.bool (!t21)]

theorem c_impl_OfficeOk {W : World} {x0 : Office} {b0 : AC × AC × AC × AC × AC × AC} {r : Bool} (h : impl_OfficeOk x0 = some r) (hv0_0 : SlView W x0.Case.Book.Rules b0.1.1 b0.1.2) (hv0_1 : SlView W x0.Case.Store.Facts b0.2.1.1 b0.2.1.2) (hv0_2 : SlView W x0.Case.Series.Points b0.2.2.1.1 b0.2.2.1.2) (hv0_3 : SlView W x0.Case.Member.Spells b0.2.2.2.1.1 b0.2.2.2.1.2) (hv0_4 : SlView W x0.Case.Member.Events b0.2.2.2.2.1.1 b0.2.2.2.2.1.2) (hv0_5 : SlView W x0.Paid b0.2.2.2.2.2.1 b0.2.2.2.2.2.2) :
    Gives0 Tryz.prog 19 #[vOffice x0 b0] W (.bool r) := by
 unfold impl_OfficeOk at h
 refine en Tryz.func19 Tryz.ntmps19 ?_
 refine qs (qr (oB 2 [(1, .p 0 0)] [] [(41, (eOffice x0 b0))] ?_))
 refine oe (nt (qs ?_))
 obtain ⟨p21, hE22, h23⟩ := bS h
 refine JC_cut (τ := Unit) (fun _ => [(2, vb p21)]) (fun _ => [(41, (eOffice x0 b0))]) (fun _ => []) ?_ (fun _ => ?_)
 · refine qr (oN 2 [(4, .v (vCase x0.Case (b0.1, b0.2.1, b0.2.2.1, b0.2.2.2.1, b0.2.2.2.2.1)))] [1] ?_)
   obtain ⟨t24, h25, h26⟩ := bS hE22
   refine k0 (fun γ w hs => c_impl_CaseOk (b0 := (b0.1, b0.2.1, b0.2.2.1, b0.2.2.2.1, b0.2.2.2.2.1)) h25 (hv0_0.kept hs.kept) (hv0_1.kept hs.kept) (hv0_2.kept hs.kept) (hv0_3.kept hs.kept) (hv0_4.kept hs.kept)) ?_
   refine oN 1 [(6, vb t24)] [1] ?_
   refine oS 6 h26 (fun h29 => ?_) (fun h30 => ?_)
   · refine oN 2 [(8, vi x0.Start)] [6, 1] ?_
     obtain ⟨t31, h32, h33⟩ := bS h29
     refine k0 (fun γ w hs => c_impl_MonthOk h32) ?_
     refine oN 2 [(11, vb t31)] [1] ?_
     refine oS 11 h33 (fun h36 => ?_) (fun h37 => ?_)
     · refine oN 1 [(12, .v (vOffice x0 b0))] [11, 1] ?_
       obtain ⟨t38, h39, h40⟩ := bS h36
       refine k0 (fun γ w hs => c_impl_now (b0 := b0) h39 (hv0_0.kept hs.kept) (hv0_1.kept hs.kept) (hv0_2.kept hs.kept) (hv0_3.kept hs.kept) (hv0_4.kept hs.kept) (hv0_5.kept hs.kept)) ?_
       obtain ⟨t42, h43, h44⟩ := bS h40
       refine k0 (fun γ w hs => c_impl_MonthOk h43) ?_
       refine oN 2 [(16, vb t42)] [1] ?_
       refine oS 16 h44 (fun h47 => ?_) (fun h48 => ?_)
       · refine oN 6 [(22, vb (decide ((x0.Paid.length : Int) ≤ 240)))] [1] ?_
         refine oS 22 h47 (fun h50 => ?_) (fun h51 => ?_)
         · refine oN 2 [(24, .v (.slice b0.2.2.2.2.2.1 x0.Paid.length b0.2.2.2.2.2.2))] [22] ?_
           obtain ⟨t52, h53, h54⟩ := bS h50
           refine k0 (fun γ w hs => c_impl_allWithin h53 (hv0_5.kept hs.kept)) ?_
           refine oN 2 [(2, vb t52)] [] ?_
           refine oe ?_
           obtain rfl := sI h54
           exact mt () [2] [] 1
         refine oN 5 [(2, vb false)] [] ?_
         refine oe ?_
         obtain rfl := sI h51
         exact mt () [2] [] 1
       refine oN 11 [(2, vb false)] [] ?_
       refine oe ?_
       obtain rfl := sI h48
       exact mt () [2] [] 1
     refine oN 16 [(2, vb false)] [] ?_
     refine oe ?_
     obtain rfl := sI h37
     exact mt () [2] [] 1
   refine oN 21 [(2, vb false)] [] ?_
   refine oe ?_
   obtain rfl := sI h30
   exact mt () [2] [] 1
 refine nt (qe ?_)
 obtain rfl := sI h23
 exact re [.bool p21]

theorem c_impl_OfficeNew {W : World} {x0 : Case} {b0 : AC × AC × AC × AC × AC} {x1 : Int} {r : Office × Bool} (h : impl_OfficeNew x0 x1 = some r) (hv0_0 : SlView W x0.Book.Rules b0.1.1 b0.1.2) (hv0_1 : SlView W x0.Store.Facts b0.2.1.1 b0.2.1.2) (hv0_2 : SlView W x0.Series.Points b0.2.2.1.1 b0.2.2.1.2) (hv0_3 : SlView W x0.Member.Spells b0.2.2.2.1.1 b0.2.2.2.1.2) (hv0_4 : SlView W x0.Member.Events b0.2.2.2.2.1 b0.2.2.2.2.2) :
    Gives Tryz.prog 27 #[vCase x0 b0, .int .i64 x1] W (fun y : AC × AC × AC × AC × AC × AC => .tuple #[vOffice r.1 y, .bool r.2]) (fun y => [SlRes 76 r.1.Case.Book.Rules y.1.1 y.1.2, SlRes 47 r.1.Case.Store.Facts y.2.1.1 y.2.1.2, SlRes 52 r.1.Case.Series.Points y.2.2.1.1 y.2.2.1.2, SlRes 156 r.1.Case.Member.Spells y.2.2.2.1.1 y.2.2.2.1.2, SlRes 158 r.1.Case.Member.Events y.2.2.2.2.1.1 y.2.2.2.2.1.2, SlRes 3 r.1.Paid y.2.2.2.2.2.1 y.2.2.2.2.2.2]) := by
 unfold impl_OfficeNew at h
 refine en Tryz.func27 Tryz.ntmps27 ?_
 refine qs (qr (oB 3 [(4, .p 1 0), (2, .p 0 0)] [1] [(38, (eCase x0 b0)), (41, [.slice none 0 0, .slice none 0 0, .slice none 0 0, .int .i64 0, .int .i64 0, .slice none 0 0, .slice none 0 0, .int .i64 0, .slice none 0 0])] ?_))
 refine oe (nt (qs (qr (oN 1 [(7, .v (vCase x0 b0))] [4, 1] ?_))))
 obtain ⟨t21, h22, h23⟩ := bS h
 refine k1 (fun γ w hs => c_impl_copyCase (b0 := b0) h22 (hv0_0.kept hs.kept) (hv0_1.kept hs.kept) (hv0_2.kept hs.kept) (hv0_3.kept hs.kept) (hv0_4.kept hs.kept)) (fun y24 => ?_)
 refine oB 4 [(6, .p 2 0)] [4] [(38, (eCase x0 b0)), (41, [.slice none 0 0, .slice none 0 0, .slice none 0 0, .int .i64 0, .int .i64 0, .slice none 0 0, .slice none 0 0, .int .i64 0, .slice none 0 0]), (41, (eOffice (Office.mk t21 x1 ([] : List Int)) (y24.1, y24.2.1, y24.2.2.1, y24.2.2.2.1, y24.2.2.2.2, (none, 0))))] ?_
 refine oe (nt (qs (qs (qr (oN 1 [(11, .v (vOffice (Office.mk t21 x1 ([] : List Int)) (y24.1, y24.2.1, y24.2.2.1, y24.2.2.2.1, y24.2.2.2.2, (none, 0))))] [6, 4] ?_)))))
 obtain ⟨t25, h26, h27⟩ := bS h23
 refine k0 (fun γ w hs => c_impl_OfficeOk (b0 := (y24.1, y24.2.1, y24.2.2.1, y24.2.2.2.1, y24.2.2.2.2, (none, 0))) h26 (hs.view 0 rfl) (hs.view 1 rfl) (hs.view 2 rfl) (hs.view 3 rfl) (hs.view 4 rfl) (SlView.ofNil _)) ?_
 refine oN 1 [(13, vb (!t25))] [6, 4] ?_
 refine oe (nt (cC h27 (fun h30 => ?_) (fun h31 => ?_)))
 · refine qs (qr (oN 3 [(5, vb false)] [4] ?_))
   refine oe (nt (qe (nr (JE_addnil 76 (List.nil (α := Rule)) rfl ?_))))
   refine JE_addnil 47 (List.nil (α := Fact)) rfl ?_
   refine JE_addnil 52 (List.nil (α := Point)) rfl ?_
   refine JE_addnil 156 (List.nil (α := Spell)) rfl ?_
   refine JE_addnil 158 (List.nil (α := Event)) rfl ?_
   refine JE_addnil 3 (List.nil (α := Int)) rfl ?_
   refine rt [.agg #[.slice none 0 0, .slice none 0 0, .slice none 0 0, .int .i64 0, .int .i64 0, .slice none 0 0, .slice none 0 0, .int .i64 0, .slice none 0 0], .bool false] (fun γ w hs => ?_)
   rw [← sI h30]
   exact ⟨((none, 0), (none, 0), (none, 0), (none, 0), (none, 0), (none, 0)), rfl, hs.kept.toBelow, (hs.takeR (is := [5, 4, 3, 2, 1, 0]) rfl).fresh⟩
 refine qk (nt (qs (qr (oB 3 [(5, vb true)] [4] [(38, (eCase x0 b0)), (41, (eOffice (Office.mk t21 x1 ([] : List Int)) (y24.1, y24.2.1, y24.2.2.1, y24.2.2.2.1, y24.2.2.2.2, (none, 0)))), (41, (eOffice (Office.mk t21 x1 ([] : List Int)) (y24.1, y24.2.1, y24.2.2.1, y24.2.2.2.1, y24.2.2.2.2, (none, 0))))] ?_))))
 refine oe (nt (qe (JE_addnil 3 (List.nil (α := Int)) rfl ?_)))
 refine rt [vOffice (Office.mk t21 x1 ([] : List Int)) (y24.1, y24.2.1, y24.2.2.1, y24.2.2.2.1, y24.2.2.2.2, (none, 0)), .bool true] (fun γ w hs => ?_)
 rw [← sI h31]
 exact ⟨(y24.1, y24.2.1, y24.2.2.1, y24.2.2.2.1, y24.2.2.2.2, (none, 0)), rfl, hs.kept.toBelow, (hs.takeR (is := [1, 1, 1, 1, 1, 0]) rfl).fresh⟩

theorem c_slices_Clone_int {W : World} {x0 : List Int} {a0_0 : Option Addr} {c0_0 : Nat} {r : (List Int)} (h : slices_Clone_int x0 = some r) (hv0_0 : SlView W x0 a0_0 c0_0) :
    Gives Tryz.prog 89 #[.slice a0_0 x0.length c0_0] W (fun y : AC => .slice y.1 r.length y.2) (fun y => [SlRes 3 r y.1 y.2]) := by
 unfold slices_Clone_int at h
 refine en Tryz.func89 Tryz.ntmps89 ?_
 refine qs (qr (oN 1 [] [0] ?_))
 refine oe (nt (qs (qs (qr (oN 1 [(3, .v (.slice a0_0 x0.length c0_0))] [0] ?_)))))
 rcases a0_0 with _ | d21
 · obtain rfl := hv0_0.nil rfl
   obtain rfl := hv0_0.nilE
   have h22 : (some ([] : List Int)) = some r := h
   refine oN 1 [(4, vb true)] [0] ?_
   refine oe (nt (JC_cond true (by kernel_rfl) (fun _ => ?_) (fun hb => by cases hb)))
   refine qs (qr (oN 1 [(2, .v (.slice none 0 0))] [] ?_))
   refine oe (nt (qe (nr (JE_addnil 3 (List.nil (α := Int)) rfl ?_))))
   refine rt [.slice none 0 0] (fun γ w hs => ?_)
   rw [← sI h22]
   exact ⟨(none, 0), rfl, hs.kept.toBelow, (hs.takeR (is := [0]) rfl).fresh⟩
 refine oN 1 [(4, vb false)] [0] ?_
 refine oe (nt (JC_cond false (by kernel_rfl) (fun hb => by cases hb) (fun _ => ?_)))
 refine qk (nt (qs (qr (ob [] [] 3 0 [] ([] : List Int) (own_flat (by kernel_rfl)) (fun y24 => ?_)))))
 refine oN 1 [(6, .v (.slice (some d21) x0.length c0_0))] [5] ?_
 obtain ⟨l27, hm28, h29⟩ := bS h
 refine oa 39 c0_0 Tryz.t3 (.int .i64 0) (fun γ w hs => ⟨c0_0, (hv0_0.kept hs.kept)⟩) hm28 (fun y26 => ?_)
 refine oN 1 [(2, .v (.slice y26.1 l27.length y26.2))] [] ?_
 refine oe (nt (qe (rt [.slice y26.1 l27.length y26.2] (fun γ w hs => ?_))))
 rw [← sI h29]
 exact ⟨y26, rfl, hs.kept.toBelow, (hs.takeR (is := [0]) rfl).fresh⟩

theorem c_impl_copyOffice {W : World} {x0 : Office} {b0 : AC × AC × AC × AC × AC × AC} {r : Office} (h : impl_copyOffice x0 = some r) (hv0_0 : SlView W x0.Case.Book.Rules b0.1.1 b0.1.2) (hv0_1 : SlView W x0.Case.Store.Facts b0.2.1.1 b0.2.1.2) (hv0_2 : SlView W x0.Case.Series.Points b0.2.2.1.1 b0.2.2.1.2) (hv0_3 : SlView W x0.Case.Member.Spells b0.2.2.2.1.1 b0.2.2.2.1.2) (hv0_4 : SlView W x0.Case.Member.Events b0.2.2.2.2.1.1 b0.2.2.2.2.1.2) (hv0_5 : SlView W x0.Paid b0.2.2.2.2.2.1 b0.2.2.2.2.2.2) :
    Gives Tryz.prog 51 #[vOffice x0 b0] W (fun y : AC × AC × AC × AC × AC × AC => vOffice r y) (fun y => [SlRes 76 r.Case.Book.Rules y.1.1 y.1.2, SlRes 47 r.Case.Store.Facts y.2.1.1 y.2.1.2, SlRes 52 r.Case.Series.Points y.2.2.1.1 y.2.2.1.2, SlRes 156 r.Case.Member.Spells y.2.2.2.1.1 y.2.2.2.1.2, SlRes 158 r.Case.Member.Events y.2.2.2.2.1.1 y.2.2.2.2.1.2, SlRes 3 r.Paid y.2.2.2.2.2.1 y.2.2.2.2.2.2]) := by
 unfold impl_copyOffice at h
 refine en Tryz.func51 Tryz.ntmps51 ?_
 refine qs (qr (oB 2 [(2, .p 1 0), (1, .p 0 0)] [] [(41, (eOffice x0 b0)), (41, [.slice none 0 0, .slice none 0 0, .slice none 0 0, .int .i64 0, .int .i64 0, .slice none 0 0, .slice none 0 0, .int .i64 0, .slice none 0 0])] ?_))
 refine oe (nt (qs ?_))
 obtain ⟨t21, h22, h23⟩ := bS h
 obtain ⟨t25, h26, h27⟩ := bS h23
 refine JC_cut (τ := (AC × AC × AC × AC × AC) × AC) (fun y29 => [(2, .p 1 0)]) (fun y29 => [(41, (eOffice x0 b0)), (41, (eOffice (Office.mk t21 x0.Start t25) (y29.1.1, y29.1.2.1, y29.1.2.2.1, y29.1.2.2.2.1, y29.1.2.2.2.2, y29.2)))]) (fun y29 => [SlRes 3 t25 y29.2.1 y29.2.2, SlRes 76 t21.Book.Rules y29.1.1.1 y29.1.1.2, SlRes 47 t21.Store.Facts y29.1.2.1.1 y29.1.2.1.2, SlRes 52 t21.Series.Points y29.1.2.2.1.1 y29.1.2.2.1.2, SlRes 156 t21.Member.Spells y29.1.2.2.2.1.1 y29.1.2.2.2.1.2, SlRes 158 t21.Member.Events y29.1.2.2.2.2.1 y29.1.2.2.2.2.2]) ?_ (fun y29 => ?_)
 · refine jw [2, 1] [] ?_
   refine JC_heldN (ks := [0]) (Rk := []) 10 (by kernel_rfl) (by kernel_rfl) ?_
   refine htq 0 (.p 0 0) [] ?_
   refine htq 1 (.v (vCase x0.Case (b0.1, b0.2.1, b0.2.2.1, b0.2.2.2.1, b0.2.2.2.2.1))) [] ?_
   refine hk [4, 2, 1] ?_
   refine htq 3 (.p 0 7) [] ?_
   refine htq 4 (vi x0.Start) [] ?_
   refine hk [7, 4, 2, 1] ?_
   refine htq 5 (.p 0 8) [] ?_
   refine hk [8, 7, 4, 2] ?_
   refine htq 6 (.v (.slice b0.2.2.2.2.2.1 x0.Paid.length b0.2.2.2.2.2.2)) [] ?_
   refine hk [9, 7, 4, 2] ?_
   refine ha1 2 ?_
   refine hi (fun γ0 δ hm => ?_)
   refine g1 (fun w hs => c_impl_copyCase (b0 := (b0.1, b0.2.1, b0.2.2.1, b0.2.2.2.1, b0.2.2.2.2.1)) h22 (hv0_0.kept hs.kept) (hv0_1.kept hs.kept) (hv0_2.kept hs.kept) (hv0_3.kept hs.kept) (hv0_4.kept hs.kept)) (fun y24 => ?_)
   refine gn hm [5, 9, 7, 2] [] ?_
   refine ha1 7 ?_
   refine hi (fun γ0 δ hm => ?_)
   refine g1 (fun w hs => c_slices_Clone_int h26 (hv0_5.kept hs.kept)) (fun y28 => ?_)
   refine gn hm [10, 5, 7, 2] [] ?_
   refine htq 8 (.v (vOffice (Office.mk t21 x0.Start t25) (y24.1, y24.2.1, y24.2.2.1, y24.2.2.2.1, y24.2.2.2.2, y28))) [] ?_
   refine hk [11, 2] ?_
   refine ha1 9 ?_
   refine hi (fun γ0 δ hm => ?_)
   refine gs [(11, .v (vOffice (Office.mk t21 x0.Start t25) (y24.1, y24.2.1, y24.2.2.1, y24.2.2.2.1, y24.2.2.2.2, y28))), (2, .p 1 0)] [(41, (eOffice x0 b0)), (41, (eOffice (Office.mk t21 x0.Start t25) (y24.1, y24.2.1, y24.2.2.1, y24.2.2.2.1, y24.2.2.2.2, y28)))] (fun δ2 => ?_)
   refine gd hm [2] [] ?_
   exact hd (y24, y28) [2] [0, 0, 0, 0, 0, 0] 2
 refine nt (qe (rt [vOffice (Office.mk t21 x0.Start t25) (y29.1.1, y29.1.2.1, y29.1.2.2.1, y29.1.2.2.2.1, y29.1.2.2.2.2, y29.2)] (fun γ w hs => ?_)))
 rw [← sI h27]
 exact ⟨(y29.1.1, y29.1.2.1, y29.1.2.2.1, y29.1.2.2.2.1, y29.1.2.2.2.2, y29.2), rfl, hs.kept.toBelow, (hs.takeR (is := [1, 1, 1, 1, 1, 0]) rfl).fresh⟩

theorem c_impl_ActOk {W : World} {x0 : Act} {r : Bool} (h : impl_ActOk x0 = some r)  :
    Gives0 Tryz.prog 61 #[vAct x0] W (.bool r) := by
 unfold impl_ActOk at h
 refine en Tryz.func61 Tryz.ntmps61 ?_
 refine qs (qr (oB 2 [(1, .p 0 0)] [] [(66, (eAct x0))] ?_))
 refine oe (nt (qs (qr (oB 5 [(3, .p 1 0)] [1] [(66, (eAct x0)), (66, (eAct (Act.mk x0.Kind (Fact.mk 0 0 0 0 0) (Point.mk 0 0 0) 0)))] ?_))))
 refine oe (nt (qs (qs (qr (oN 2 [(8, vi x0.Kind)] [3, 1] ?_)))))
 refine oe (nt (qb (qs (qr (oN 2 [(9, vb (x0.Kind == 1))] [8, 3, 1] ?_)))))
 refine oe (nt ?_)
 obtain ⟨k37, hk38, h49⟩ := jS h
 refine JC_cutP (τ := (Int × Int × Int × Int × Int × Int × Int × Int × Int) × (Unit)) (fun y => k37 y.1 = some r) (fun y36 => [(3, .p 1 0), (1, .p 0 0)]) (fun y36 => [(66, (eAct x0)), (66, (eAct (Act.mk x0.Kind (Fact.mk y36.1.1 y36.1.2.1 y36.1.2.2.1 y36.1.2.2.2.1 y36.1.2.2.2.2.1) (Point.mk y36.1.2.2.2.2.2.1 y36.1.2.2.2.2.2.2.1 y36.1.2.2.2.2.2.2.2.1) y36.1.2.2.2.2.2.2.2.2)))]) (fun y36 => []) ?_ (fun y36 h39p => ?_)
 · refine cC h49 (fun h51 => ?_) (fun h52 => ?_)
   · refine qr (oB 4 [] [3, 1] [(66, (eAct x0)), (66, (eAct (Act.mk x0.Kind x0.Fact (Point.mk 0 0 0) 0)))] ?_)
     exact oe (mp ((x0.Fact.Key, x0.Fact.From, x0.Fact.To, x0.Fact.Known, x0.Fact.Value, 0, 0, 0, 0), ()) h51 [3, 1] [] 2)
   refine qs (qr (oN 2 [(14, vb (x0.Kind == 2))] [8, 3, 1] ?_))
   refine oe (nt (cC h52 (fun h54 => ?_) (fun h55 => ?_)))
   · refine qr (oB 4 [] [3, 1] [(66, (eAct x0)), (66, (eAct (Act.mk x0.Kind (Fact.mk 0 0 0 0 0) x0.Point 0)))] ?_)
     exact oe (mp ((0, 0, 0, 0, 0, x0.Point.Month, x0.Point.Known, x0.Point.Value, 0), ()) h54 [3, 1] [] 2)
   refine qs (qr (oN 2 [(19, vb (x0.Kind == 3))] [3, 1] ?_))
   refine oe (nt (cC h55 (fun h57 => ?_) (fun h58 => ?_)))
   · refine qs (qr (oB 4 [] [3, 1] [(66, (eAct x0)), (66, (eAct (Act.mk x0.Kind (Fact.mk 0 0 0 0 0) (Point.mk 0 0 0) x0.N)))] ?_))
     refine oe (nt (qs (qr (oN 2 [(25, vi x0.N)] [3, 1] ?_))))
     obtain ⟨t59, h60, h61⟩ := bS h57
     refine k0 (fun γ w hs => c_impl_within h60) ?_
     refine oN 1 [(27, vb (!t59))] [3, 1] ?_
     refine oe (nt (cC h61 (fun h64 => ?_) (fun h65 => ?_)))
     · refine qs (qr (oN 1 [(2, vb false)] [] ?_))
       refine oe (nt (qe (nr (br (nr ?_)))))
       obtain rfl := sI h64
       exact re [.bool false]
     exact qk (mp ((0, 0, 0, 0, 0, 0, 0, 0, x0.N), ()) h65 [3, 1] [] 2)
   refine qs (qr (oN 1 [(2, vb false)] [] ?_))
   refine oe (nt (qe (nr (br (nr ?_)))))
   obtain rfl := sI h58
   exact re [.bool false]
 have h39 := (congrFun hk38 _).symm.trans h39p
 refine bn (nt (qs ?_))
 obtain ⟨p40, hE41, h42⟩ := bS h39
 refine JC_cut (τ := Unit) (fun _ => [(2, vb p40)]) (fun _ => [(66, (eAct x0)), (66, (eAct (Act.mk x0.Kind (Fact.mk y36.1.1 y36.1.2.1 y36.1.2.2.1 y36.1.2.2.2.1 y36.1.2.2.2.2.1) (Point.mk y36.1.2.2.2.2.2.1 y36.1.2.2.2.2.2.2.1 y36.1.2.2.2.2.2.2.2.1) y36.1.2.2.2.2.2.2.2.2)))]) (fun _ => []) ?_ (fun _ => ?_)
 · refine qr (oN 4 [(31, vb ((x0.Kind == x0.Kind) && (((x0.Fact.Key == y36.1.1) && ((x0.Fact.From == y36.1.2.1) && ((x0.Fact.To == y36.1.2.2.1) && ((x0.Fact.Known == y36.1.2.2.2.1) && ((x0.Fact.Value == y36.1.2.2.2.2.1) && true))))) && (((x0.Point.Month == y36.1.2.2.2.2.2.1) && ((x0.Point.Known == y36.1.2.2.2.2.2.2.1) && ((x0.Point.Value == y36.1.2.2.2.2.2.2.2.1) && true))) && ((x0.N == y36.1.2.2.2.2.2.2.2.2) && true)))))] [1] ?_)
   refine oS 31 hE41 (fun h44 => ?_) (fun h45 => ?_)
   · refine oN 6 [(37, vb (x0.Fact.Known == 0))] [1] ?_
     refine oS 37 h44 (fun h47 => ?_) (fun h48 => ?_)
     · refine oN 6 [(2, vb (x0.Point.Known == 0))] [] ?_
       refine oe ?_
       obtain rfl := sI h47
       exact mt () [2] [] 2
     refine oN 6 [(2, vb false)] [] ?_
     refine oe ?_
     obtain rfl := sI h48
     exact mt () [2] [] 2
   refine oN 12 [(2, vb false)] [] ?_
   refine oe ?_
   obtain rfl := sI h45
   exact mt () [2] [] 2
 refine nt (qe ?_)
 obtain rfl := sI h42
 exact re [.bool p40]

theorem c_impl_AddFact {W : World} {x0 : Store} {a0_0 : Option Addr} {c0_0 : Nat} {x1 : Fact} {r : Store × Bool} (h : impl_AddFact x0 x1 = some r) (hv0_0 : SlView W x0.Facts a0_0 c0_0) :
    Gives Tryz.prog 53 #[vStore x0 (a0_0, c0_0), vFact x1] W (fun y : AC => .tuple #[vStore r.1 y, .bool r.2]) (fun y => [SlRes 47 r.1.Facts y.1 y.2]) := by
 unfold impl_AddFact at h
 refine en Tryz.func53 Tryz.ntmps53 ?_
 refine qs (qr (oB 4 [(4, .p 2 0), (3, .p 1 0), (2, .p 0 0)] [] [(29, (eStore x0 (a0_0, c0_0))), (47, (eFact x1)), (29, [.slice none 0 0])] ?_))
 refine oe (nt (qs ?_))
 obtain ⟨t21, h22, h23⟩ := bS h
 obtain ⟨l27, hm28, h29⟩ := bS h23
 refine JC_cut (τ := AC) (fun y30 => [(6, .p 3 0), (4, .p 2 0), (2, .p 0 0)]) (fun y30 => [(29, (eStore x0 (a0_0, c0_0))), (47, (eFact x1)), (29, [.slice none 0 0]), (29, (eStore (Store.mk l27) y30))]) (fun y30 => [SlRes 47 l27 y30.1 y30.2]) ?_ (fun y30 => ?_)
 · refine jw [4, 3, 2] [] ?_
   refine JC_heldN (ks := [0, 1, 2]) (Rk := []) 9 (by kernel_rfl) (by kernel_rfl) ?_
   refine htq 0 (.p 0 0) [] ?_
   refine htq 1 (.v (.slice a0_0 x0.Facts.length c0_0)) [] ?_
   refine hk [8, 4, 3, 2] ?_
   refine htq 3 (.v (vFact x1)) [] ?_
   refine hk [10, 8, 4, 2] ?_
   refine ha3 2 4 7 ?_ ?_ ?_
   · refine hi (fun γ0 δ hm => ?_)
     refine g1 (fun w hs => c_slices_Clone_Fact h22 (hv0_0.kept hs.kept)) (fun y24 => ?_)
     refine gn hm [9, 10, 4, 2] [] ?_
     refine ha2 4 7 ?_ ?_
     · refine hi (fun γ0 δ hm => ?_)
       refine gb [] [SlRes 47 t21 y24.1 y24.2] 47 1 [.int .i64 x1.Key, .int .i64 x1.From, .int .i64 x1.To, .int .i64 x1.Known, .int .i64 x1.Value] ([x1] : List Fact) (own_flat (by kernel_rfl)) (fun y25 => ?_)
       refine gn hm [11, 9, 4, 2] [] ?_
       refine ha2 5 7 ?_ ?_
       · refine hr_ [1, 0] ?_
         refine hi (fun γ0 δ hm => ?_)
         refine ga 27 y25.2 Tryz.t47 (vFact (Fact.mk 0 0 0 0 0)) (fun w hs => ⟨y25.2, (hs.view 1 rfl)⟩) hm28 (fun y26 => ?_)
         refine gn hm [12, 4, 2] [] ?_
         refine htq 6 (.v (vStore (Store.mk l27) y26)) [] ?_
         refine hk [13, 4, 2] ?_
         refine ha1 7 ?_
         refine hi (fun γ0 δ hm => ?_)
         refine gs [(6, .p 3 0), (13, .v (vStore (Store.mk l27) y26)), (4, .p 2 0), (2, .p 0 0)] [(29, (eStore x0 (a0_0, c0_0))), (47, (eFact x1)), (29, [.slice none 0 0]), (29, [.slice none 0 0])] (fun δ2 => ?_)
         refine gd hm [6, 13, 4, 2] [] ?_
         refine ha1 8 ?_
         refine hi (fun γ0 δ hm => ?_)
         refine gs [(6, .p 3 0), (13, .v (vStore (Store.mk l27) y26)), (4, .p 2 0), (2, .p 0 0)] [(29, (eStore x0 (a0_0, c0_0))), (47, (eFact x1)), (29, [.slice none 0 0]), (29, (eStore (Store.mk l27) y26))] (fun δ2 => ?_)
         refine gd hm [6, 4, 2] [] ?_
         exact hd y26 [6, 4, 2] [0] 4
       · refine hi (fun γ0 δ hm => ?_)
         refine gs [(6, .p 3 0), (11, .v (.slice y25.1 ([x1] : List Fact).length y25.2)), (9, .v (.slice y24.1 t21.length y24.2)), (4, .p 2 0), (2, .p 0 0)] [(29, (eStore x0 (a0_0, c0_0))), (47, (eFact x1)), (29, [.slice none 0 0]), (29, [.slice none 0 0])] (fun δ2 => ?_)
         refine gd hm [6, 11, 9, 4, 2] [] ?_
         refine ha1 5 ?_
         refine hr_ [1, 0] ?_
         refine hi (fun γ0 δ hm => ?_)
         refine ga 27 y25.2 Tryz.t47 (vFact (Fact.mk 0 0 0 0 0)) (fun w hs => ⟨y25.2, (hs.view 1 rfl)⟩) hm28 (fun y26 => ?_)
         refine gn hm [12, 6, 4, 2] [] ?_
         refine htq 6 (.v (vStore (Store.mk l27) y26)) [] ?_
         refine hk [13, 6, 4, 2] ?_
         refine ha1 8 ?_
         refine hi (fun γ0 δ hm => ?_)
         refine gs [(13, .v (vStore (Store.mk l27) y26)), (6, .p 3 0), (4, .p 2 0), (2, .p 0 0)] [(29, (eStore x0 (a0_0, c0_0))), (47, (eFact x1)), (29, [.slice none 0 0]), (29, (eStore (Store.mk l27) y26))] (fun δ2 => ?_)
         refine gd hm [6, 4, 2] [] ?_
         exact hd y26 [6, 4, 2] [0] 4
     · refine hi (fun γ0 δ hm => ?_)
       refine gs [(6, .p 3 0), (9, .v (.slice y24.1 t21.length y24.2)), (10, .v (vFact x1)), (4, .p 2 0), (2, .p 0 0)] [(29, (eStore x0 (a0_0, c0_0))), (47, (eFact x1)), (29, [.slice none 0 0]), (29, [.slice none 0 0])] (fun δ2 => ?_)
       refine gd hm [6, 9, 10, 4, 2] [] ?_
       refine ha1 4 ?_
       refine hi (fun γ0 δ hm => ?_)
       refine gb [] [SlRes 47 t21 y24.1 y24.2] 47 1 [.int .i64 x1.Key, .int .i64 x1.From, .int .i64 x1.To, .int .i64 x1.Known, .int .i64 x1.Value] ([x1] : List Fact) (own_flat (by kernel_rfl)) (fun y25 => ?_)
       refine gn hm [11, 6, 9, 4, 2] [] ?_
       refine ha1 5 ?_
       refine hr_ [1, 0] ?_
       refine hi (fun γ0 δ hm => ?_)
       refine ga 27 y25.2 Tryz.t47 (vFact (Fact.mk 0 0 0 0 0)) (fun w hs => ⟨y25.2, (hs.view 1 rfl)⟩) hm28 (fun y26 => ?_)
       refine gn hm [12, 6, 4, 2] [] ?_
       refine htq 6 (.v (vStore (Store.mk l27) y26)) [] ?_
       refine hk [13, 6, 4, 2] ?_
       refine ha1 8 ?_
       refine hi (fun γ0 δ hm => ?_)
       refine gs [(13, .v (vStore (Store.mk l27) y26)), (6, .p 3 0), (4, .p 2 0), (2, .p 0 0)] [(29, (eStore x0 (a0_0, c0_0))), (47, (eFact x1)), (29, [.slice none 0 0]), (29, (eStore (Store.mk l27) y26))] (fun δ2 => ?_)
       refine gd hm [6, 4, 2] [] ?_
       exact hd y26 [6, 4, 2] [0] 4
   · refine hi (fun γ0 δ hm => ?_)
     refine gb [] [] 47 1 [.int .i64 x1.Key, .int .i64 x1.From, .int .i64 x1.To, .int .i64 x1.Known, .int .i64 x1.Value] ([x1] : List Fact) (own_flat (by kernel_rfl)) (fun y25 => ?_)
     refine gn hm [11, 8, 4, 2] [] ?_
     refine ha2 2 7 ?_ ?_
     · refine hi (fun γ0 δ hm => ?_)
       refine g1 (fun w hs => c_slices_Clone_Fact h22 (hv0_0.kept hs.kept)) (fun y24 => ?_)
       refine gn hm [9, 11, 4, 2] [] ?_
       refine ha2 5 7 ?_ ?_
       · refine hi (fun γ0 δ hm => ?_)
         refine ga 27 y25.2 Tryz.t47 (vFact (Fact.mk 0 0 0 0 0)) (fun w hs => ⟨y25.2, (hs.view 1 rfl)⟩) hm28 (fun y26 => ?_)
         refine gn hm [12, 4, 2] [] ?_
         refine htq 6 (.v (vStore (Store.mk l27) y26)) [] ?_
         refine hk [13, 4, 2] ?_
         refine ha1 7 ?_
         refine hi (fun γ0 δ hm => ?_)
         refine gs [(6, .p 3 0), (13, .v (vStore (Store.mk l27) y26)), (4, .p 2 0), (2, .p 0 0)] [(29, (eStore x0 (a0_0, c0_0))), (47, (eFact x1)), (29, [.slice none 0 0]), (29, [.slice none 0 0])] (fun δ2 => ?_)
         refine gd hm [6, 13, 4, 2] [] ?_
         refine ha1 8 ?_
         refine hi (fun γ0 δ hm => ?_)
         refine gs [(6, .p 3 0), (13, .v (vStore (Store.mk l27) y26)), (4, .p 2 0), (2, .p 0 0)] [(29, (eStore x0 (a0_0, c0_0))), (47, (eFact x1)), (29, [.slice none 0 0]), (29, (eStore (Store.mk l27) y26))] (fun δ2 => ?_)
         refine gd hm [6, 4, 2] [] ?_
         exact hd y26 [6, 4, 2] [0] 4
       · refine hi (fun γ0 δ hm => ?_)
         refine gs [(6, .p 3 0), (9, .v (.slice y24.1 t21.length y24.2)), (11, .v (.slice y25.1 ([x1] : List Fact).length y25.2)), (4, .p 2 0), (2, .p 0 0)] [(29, (eStore x0 (a0_0, c0_0))), (47, (eFact x1)), (29, [.slice none 0 0]), (29, [.slice none 0 0])] (fun δ2 => ?_)
         refine gd hm [6, 9, 11, 4, 2] [] ?_
         refine ha1 5 ?_
         refine hi (fun γ0 δ hm => ?_)
         refine ga 27 y25.2 Tryz.t47 (vFact (Fact.mk 0 0 0 0 0)) (fun w hs => ⟨y25.2, (hs.view 1 rfl)⟩) hm28 (fun y26 => ?_)
         refine gn hm [12, 6, 4, 2] [] ?_
         refine htq 6 (.v (vStore (Store.mk l27) y26)) [] ?_
         refine hk [13, 6, 4, 2] ?_
         refine ha1 8 ?_
         refine hi (fun γ0 δ hm => ?_)
         refine gs [(13, .v (vStore (Store.mk l27) y26)), (6, .p 3 0), (4, .p 2 0), (2, .p 0 0)] [(29, (eStore x0 (a0_0, c0_0))), (47, (eFact x1)), (29, [.slice none 0 0]), (29, (eStore (Store.mk l27) y26))] (fun δ2 => ?_)
         refine gd hm [6, 4, 2] [] ?_
         exact hd y26 [6, 4, 2] [0] 4
     · refine hi (fun γ0 δ hm => ?_)
       refine gs [(6, .p 3 0), (11, .v (.slice y25.1 ([x1] : List Fact).length y25.2)), (8, .v (.slice a0_0 x0.Facts.length c0_0)), (4, .p 2 0), (2, .p 0 0)] [(29, (eStore x0 (a0_0, c0_0))), (47, (eFact x1)), (29, [.slice none 0 0]), (29, [.slice none 0 0])] (fun δ2 => ?_)
       refine gd hm [6, 11, 8, 4, 2] [] ?_
       refine ha1 2 ?_
       refine hi (fun γ0 δ hm => ?_)
       refine g1 (fun w hs => c_slices_Clone_Fact h22 (hv0_0.kept hs.kept)) (fun y24 => ?_)
       refine gn hm [9, 6, 11, 4, 2] [] ?_
       refine ha1 5 ?_
       refine hi (fun γ0 δ hm => ?_)
       refine ga 27 y25.2 Tryz.t47 (vFact (Fact.mk 0 0 0 0 0)) (fun w hs => ⟨y25.2, (hs.view 1 rfl)⟩) hm28 (fun y26 => ?_)
       refine gn hm [12, 6, 4, 2] [] ?_
       refine htq 6 (.v (vStore (Store.mk l27) y26)) [] ?_
       refine hk [13, 6, 4, 2] ?_
       refine ha1 8 ?_
       refine hi (fun γ0 δ hm => ?_)
       refine gs [(13, .v (vStore (Store.mk l27) y26)), (6, .p 3 0), (4, .p 2 0), (2, .p 0 0)] [(29, (eStore x0 (a0_0, c0_0))), (47, (eFact x1)), (29, [.slice none 0 0]), (29, (eStore (Store.mk l27) y26))] (fun δ2 => ?_)
       refine gd hm [6, 4, 2] [] ?_
       exact hd y26 [6, 4, 2] [0] 4
   · refine hi (fun γ0 δ hm => ?_)
     refine gs [(6, .p 3 0), (10, .v (vFact x1)), (8, .v (.slice a0_0 x0.Facts.length c0_0)), (4, .p 2 0), (2, .p 0 0)] [(29, (eStore x0 (a0_0, c0_0))), (47, (eFact x1)), (29, [.slice none 0 0]), (29, [.slice none 0 0])] (fun δ2 => ?_)
     refine gd hm [6, 10, 8, 4, 2] [] ?_
     refine ha2 2 4 ?_ ?_
     · refine hi (fun γ0 δ hm => ?_)
       refine g1 (fun w hs => c_slices_Clone_Fact h22 (hv0_0.kept hs.kept)) (fun y24 => ?_)
       refine gn hm [9, 6, 10, 4, 2] [] ?_
       refine ha1 4 ?_
       refine hi (fun γ0 δ hm => ?_)
       refine gb [] [SlRes 47 t21 y24.1 y24.2] 47 1 [.int .i64 x1.Key, .int .i64 x1.From, .int .i64 x1.To, .int .i64 x1.Known, .int .i64 x1.Value] ([x1] : List Fact) (own_flat (by kernel_rfl)) (fun y25 => ?_)
       refine gn hm [11, 9, 6, 4, 2] [] ?_
       refine ha1 5 ?_
       refine hr_ [1, 0] ?_
       refine hi (fun γ0 δ hm => ?_)
       refine ga 27 y25.2 Tryz.t47 (vFact (Fact.mk 0 0 0 0 0)) (fun w hs => ⟨y25.2, (hs.view 1 rfl)⟩) hm28 (fun y26 => ?_)
       refine gn hm [12, 6, 4, 2] [] ?_
       refine htq 6 (.v (vStore (Store.mk l27) y26)) [] ?_
       refine hk [13, 6, 4, 2] ?_
       refine ha1 8 ?_
       refine hi (fun γ0 δ hm => ?_)
       refine gs [(13, .v (vStore (Store.mk l27) y26)), (6, .p 3 0), (4, .p 2 0), (2, .p 0 0)] [(29, (eStore x0 (a0_0, c0_0))), (47, (eFact x1)), (29, [.slice none 0 0]), (29, (eStore (Store.mk l27) y26))] (fun δ2 => ?_)
       refine gd hm [6, 4, 2] [] ?_
       exact hd y26 [6, 4, 2] [0] 4
     · refine hi (fun γ0 δ hm => ?_)
       refine gb [] [] 47 1 [.int .i64 x1.Key, .int .i64 x1.From, .int .i64 x1.To, .int .i64 x1.Known, .int .i64 x1.Value] ([x1] : List Fact) (own_flat (by kernel_rfl)) (fun y25 => ?_)
       refine gn hm [11, 6, 8, 4, 2] [] ?_
       refine ha1 2 ?_
       refine hi (fun γ0 δ hm => ?_)
       refine g1 (fun w hs => c_slices_Clone_Fact h22 (hv0_0.kept hs.kept)) (fun y24 => ?_)
       refine gn hm [9, 11, 6, 4, 2] [] ?_
       refine ha1 5 ?_
       refine hi (fun γ0 δ hm => ?_)
       refine ga 27 y25.2 Tryz.t47 (vFact (Fact.mk 0 0 0 0 0)) (fun w hs => ⟨y25.2, (hs.view 1 rfl)⟩) hm28 (fun y26 => ?_)
       refine gn hm [12, 6, 4, 2] [] ?_
       refine htq 6 (.v (vStore (Store.mk l27) y26)) [] ?_
       refine hk [13, 6, 4, 2] ?_
       refine ha1 8 ?_
       refine hi (fun γ0 δ hm => ?_)
       refine gs [(13, .v (vStore (Store.mk l27) y26)), (6, .p 3 0), (4, .p 2 0), (2, .p 0 0)] [(29, (eStore x0 (a0_0, c0_0))), (47, (eFact x1)), (29, [.slice none 0 0]), (29, (eStore (Store.mk l27) y26))] (fun δ2 => ?_)
       refine gd hm [6, 4, 2] [] ?_
       exact hd y26 [6, 4, 2] [0] 4
 refine nt (qs (qs ?_))
 obtain ⟨p31, hE32, h33⟩ := bS h29
 refine JC_cut (τ := Unit) (fun _ => [(2, .p 0 0), (4, .p 2 0), (6, .p 3 0), (21, vb p31)]) (fun _ => [(29, (eStore x0 (a0_0, c0_0))), (47, (eFact x1)), (29, [.slice none 0 0]), (29, (eStore (Store.mk l27) y30))]) (fun _ => [SlRes 47 l27 y30.1 y30.2]) ?_ (fun _ => ?_)
 · refine qr (oN 1 [(14, .v (vStore x0 (a0_0, c0_0)))] [6, 4, 2] ?_)
   obtain ⟨t34, h35, h36⟩ := bS hE32
   refine k0 (fun γ w hs => c_impl_StoreOk h35 (hv0_0.kept hs.kept)) ?_
   refine oN 2 [(17, vb (!t34))] [6, 4, 2] ?_
   refine oS 17 h36 (fun h39 => ?_) (fun h40 => ?_)
   · refine oN 4 [(21, vb true)] [6, 4, 2] ?_
     refine oe ?_
     obtain rfl := sI h39
     exact mt () [2, 4, 6, 21] [0] 4
   refine oN 1 [(18, .v (vStore (Store.mk l27) y30))] [17, 6, 4, 2] ?_
   obtain ⟨t41, h42, h43⟩ := bS h40
   refine k0 (fun γ w hs => c_impl_StoreOk h42 (hs.view 0 rfl)) ?_
   refine oN 2 [(21, vb (!t41))] [6, 4, 2] ?_
   refine oe ?_
   obtain rfl := sI h43
   exact mt () [2, 4, 6, 21] [0] 4
 refine nt (cC h33 (fun h50 => ?_) (fun h51 => ?_))
 · refine qs (qr (oN 1 [(22, .v (vStore x0 (a0_0, c0_0)))] [4] ?_))
   obtain ⟨t52, h53, h54⟩ := bS h50
   refine k1 (fun γ w hs => c_impl_copyStore h53 (hv0_0.kept hs.kept)) (fun y55 => ?_)
   refine oB 2 [(5, vb false)] [4] [(29, (eStore x0 (a0_0, c0_0))), (47, (eFact x1)), (29, (eStore t52 y55)), (29, (eStore (Store.mk l27) y30))] ?_
   refine oe (nt (qe (nr (rt [vStore t52 y55, .bool false] (fun γ w hs => ?_)))))
   rw [← sI h54]
   exact ⟨y55, rfl, hs.kept.toBelow, (hs.takeR (is := [0]) rfl).fresh⟩
 refine qk (nt (qs (qr (oB 3 [(5, vb true)] [4] [(29, (eStore x0 (a0_0, c0_0))), (47, (eFact x1)), (29, (eStore (Store.mk l27) y30)), (29, (eStore (Store.mk l27) y30))] ?_))))
 refine oe (nt (qe (rt [vStore (Store.mk l27) y30, .bool true] (fun γ w hs => ?_))))
 rw [← sI h51]
 exact ⟨y30, rfl, hs.kept.toBelow, (hs.takeR (is := [0]) rfl).fresh⟩

theorem c_impl_LearnFact {W : World} {x0 : Office} {b0 : AC × AC × AC × AC × AC × AC} {x1 : Fact} {r : Office × Bool} (h : impl_LearnFact x0 x1 = some r) (hv0_0 : SlView W x0.Case.Book.Rules b0.1.1 b0.1.2) (hv0_1 : SlView W x0.Case.Store.Facts b0.2.1.1 b0.2.1.2) (hv0_2 : SlView W x0.Case.Series.Points b0.2.2.1.1 b0.2.2.1.2) (hv0_3 : SlView W x0.Case.Member.Spells b0.2.2.2.1.1 b0.2.2.2.1.2) (hv0_4 : SlView W x0.Case.Member.Events b0.2.2.2.2.1.1 b0.2.2.2.2.1.2) (hv0_5 : SlView W x0.Paid b0.2.2.2.2.2.1 b0.2.2.2.2.2.2) :
    Gives Tryz.prog 15 #[vOffice x0 b0, vFact x1] W (fun y : AC × AC × AC × AC × AC × AC => .tuple #[vOffice r.1 y, .bool r.2]) (fun y => [SlRes 76 r.1.Case.Book.Rules y.1.1 y.1.2, SlRes 47 r.1.Case.Store.Facts y.2.1.1 y.2.1.2, SlRes 52 r.1.Case.Series.Points y.2.2.1.1 y.2.2.1.2, SlRes 156 r.1.Case.Member.Spells y.2.2.2.1.1 y.2.2.2.1.2, SlRes 158 r.1.Case.Member.Events y.2.2.2.2.1.1 y.2.2.2.2.1.2, SlRes 3 r.1.Paid y.2.2.2.2.2.1 y.2.2.2.2.2.2]) := by
 unfold impl_LearnFact at h
 refine en Tryz.func15 Tryz.ntmps15 ?_
 refine qs (qr (oB 4 [(4, .p 2 0), (3, .p 1 0), (2, .p 0 0)] [] [(41, (eOffice x0 b0)), (47, (eFact x1)), (41, [.slice none 0 0, .slice none 0 0, .slice none 0 0, .int .i64 0, .int .i64 0, .slice none 0 0, .slice none 0 0, .int .i64 0, .slice none 0 0])] ?_))
 refine oe (nt (qs (qr (oN 1 [(9, .v (vOffice x0 b0))] [4, 3, 2] ?_))))
 obtain ⟨t21, h22, h23⟩ := bS h
 refine k1 (fun γ w hs => c_impl_copyOffice (b0 := b0) h22 (hv0_0.kept hs.kept) (hv0_1.kept hs.kept) (hv0_2.kept hs.kept) (hv0_3.kept hs.kept) (hv0_4.kept hs.kept) (hv0_5.kept hs.kept)) (fun y24 => ?_)
 refine oB 2 [(6, .p 3 0)] [4, 3, 2] [(41, (eOffice x0 b0)), (47, (eFact x1)), (41, [.slice none 0 0, .slice none 0 0, .slice none 0 0, .int .i64 0, .int .i64 0, .slice none 0 0, .slice none 0 0, .int .i64 0, .slice none 0 0]), (41, (eOffice t21 y24))] ?_
 refine oe (nt (qs (qr (oN 1 [(11, .v (vOffice x0 b0))] [6, 4, 3, 2] ?_))))
 obtain ⟨t25, h26, h27⟩ := bS h23
 refine k0 (fun γ w hs => c_impl_now (b0 := b0) h26 (hv0_0.kept hs.kept) (hv0_1.kept hs.kept) (hv0_2.kept hs.kept) (hv0_3.kept hs.kept) (hv0_4.kept hs.kept) (hv0_5.kept hs.kept)) ?_
 refine oB 2 [] [6, 4, 3, 2] [(41, (eOffice x0 b0)), (47, (eFact (Fact.mk x1.Key x1.From x1.To t25 x1.Value))), (41, [.slice none 0 0, .slice none 0 0, .slice none 0 0, .int .i64 0, .int .i64 0, .slice none 0 0, .slice none 0 0, .int .i64 0, .slice none 0 0]), (41, (eOffice t21 y24))] ?_
 refine oe (nt (qs (qr (oN 4 [(18, .v (vFact (Fact.mk x1.Key x1.From x1.To t25 x1.Value))), (17, .v (vStore x0.Case.Store b0.2.1))] [6, 4, 2] ?_))))
 obtain ⟨t29, h30, h31⟩ := bS h27
 refine k1 (fun γ w hs => c_impl_AddFact h30 (hv0_1.kept hs.kept)) (fun y32 => ?_)
 refine oB 6 [(8, vb t29.2), (7, .p 4 0)] [6, 4, 2] [(41, (eOffice x0 b0)), (47, (eFact (Fact.mk x1.Key x1.From x1.To t25 x1.Value))), (41, [.slice none 0 0, .slice none 0 0, .slice none 0 0, .int .i64 0, .int .i64 0, .slice none 0 0, .slice none 0 0, .int .i64 0, .slice none 0 0]), (41, (eOffice t21 y24)), (29, (eStore t29.1 y32))] ?_
 refine oe (nt (qs (qs ?_)))
 obtain ⟨p33, hE34, h35⟩ := bS h31
 refine JC_cut (τ := Unit) (fun _ => [(4, .p 2 0), (6, .p 3 0), (7, .p 4 0), (28, vb p33)]) (fun _ => [(41, (eOffice x0 b0)), (47, (eFact (Fact.mk x1.Key x1.From x1.To t25 x1.Value))), (41, [.slice none 0 0, .slice none 0 0, .slice none 0 0, .int .i64 0, .int .i64 0, .slice none 0 0, .slice none 0 0, .int .i64 0, .slice none 0 0]), (41, (eOffice t21 y24)), (29, (eStore t29.1 y32))]) (fun _ => [SlRes 76 t21.Case.Book.Rules y24.1.1 y24.1.2, SlRes 47 t21.Case.Store.Facts y24.2.1.1 y24.2.1.2, SlRes 52 t21.Case.Series.Points y24.2.2.1.1 y24.2.2.1.2, SlRes 156 t21.Case.Member.Spells y24.2.2.2.1.1 y24.2.2.2.1.2, SlRes 158 t21.Case.Member.Events y24.2.2.2.2.1.1 y24.2.2.2.2.1.2, SlRes 3 t21.Paid y24.2.2.2.2.2.1 y24.2.2.2.2.2.2, SlRes 47 t29.1.Facts y32.1 y32.2]) ?_ (fun _ => ?_)
 · refine qr (oN 3 [(24, vb (!t29.2))] [7, 6, 4, 2] ?_)
   refine oS 24 hE34 (fun h37 => ?_) (fun h38 => ?_)
   · refine oN 4 [(28, vb true)] [7, 6, 4] ?_
     refine oe ?_
     obtain rfl := sI h37
     exact mt () [4, 6, 7, 28] [1, 1, 1, 1, 1, 1, 0] 5
   refine oN 1 [(25, .v (vOffice x0 b0))] [24, 7, 6, 4] ?_
   obtain ⟨t39, h40, h41⟩ := bS h38
   refine k0 (fun γ w hs => c_impl_OfficeOk (b0 := b0) h40 (hv0_0.kept hs.kept) (hv0_1.kept hs.kept) (hv0_2.kept hs.kept) (hv0_3.kept hs.kept) (hv0_4.kept hs.kept) (hv0_5.kept hs.kept)) ?_
   refine oN 2 [(28, vb (!t39))] [7, 6, 4] ?_
   refine oe ?_
   obtain rfl := sI h41
   exact mt () [4, 6, 7, 28] [1, 1, 1, 1, 1, 1, 0] 5
 refine nt (cC h35 (fun h44 => ?_) (fun h45 => ?_))
 · refine qs (qr (oB 3 [(5, vb false)] [4] [(41, (eOffice x0 b0)), (47, (eFact (Fact.mk x1.Key x1.From x1.To t25 x1.Value))), (41, (eOffice t21 y24)), (41, (eOffice t21 y24)), (29, (eStore t29.1 y32))] ?_))
   refine oe (nt (qe (nr (rt [vOffice t21 y24, .bool false] (fun γ w hs => ?_)))))
   rw [← sI h44]
   exact ⟨(y24.1, y24.2.1, y24.2.2.1, y24.2.2.2.1, y24.2.2.2.2.1, y24.2.2.2.2.2), rfl, hs.kept.toBelow, (hs.takeR (is := [0, 0, 0, 0, 0, 0]) rfl).fresh⟩
 refine qk (nt (qs (qr (oB 4 [] [4, 6] [(41, (eOffice x0 b0)), (47, (eFact (Fact.mk x1.Key x1.From x1.To t25 x1.Value))), (41, [.slice none 0 0, .slice none 0 0, .slice none 0 0, .int .i64 0, .int .i64 0, .slice none 0 0, .slice none 0 0, .int .i64 0, .slice none 0 0]), (41, (eOffice (Office.mk (Case.mk t21.Case.Book t29.1 t21.Case.Series t21.Case.Member) t21.Start t21.Paid) (y24.1, y32, y24.2.2.1, y24.2.2.2.1, y24.2.2.2.2.1, y24.2.2.2.2.2))), (29, (eStore t29.1 y32))] ?_))))
 refine oe (nt (qs (qr (oB 3 [(5, vb true)] [4] [(41, (eOffice x0 b0)), (47, (eFact (Fact.mk x1.Key x1.From x1.To t25 x1.Value))), (41, (eOffice (Office.mk (Case.mk t21.Case.Book t29.1 t21.Case.Series t21.Case.Member) t21.Start t21.Paid) (y24.1, y32, y24.2.2.1, y24.2.2.2.1, y24.2.2.2.2.1, y24.2.2.2.2.2))), (41, (eOffice (Office.mk (Case.mk t21.Case.Book t29.1 t21.Case.Series t21.Case.Member) t21.Start t21.Paid) (y24.1, y32, y24.2.2.1, y24.2.2.2.1, y24.2.2.2.2.1, y24.2.2.2.2.2))), (29, (eStore t29.1 y32))] ?_))))
 refine oe (nt (qe (rt [vOffice (Office.mk (Case.mk t21.Case.Book t29.1 t21.Case.Series t21.Case.Member) t21.Start t21.Paid) (y24.1, y32, y24.2.2.1, y24.2.2.2.1, y24.2.2.2.2.1, y24.2.2.2.2.2), .bool true] (fun γ w hs => ?_))))
 rw [← sI h45]
 exact ⟨(y24.1, y32, y24.2.2.1, y24.2.2.2.1, y24.2.2.2.2.1, y24.2.2.2.2.2), rfl, hs.kept.toBelow, (hs.takeR (is := [0, 5, 1, 1, 1, 1]) rfl).fresh⟩

theorem c_impl_Publish {W : World} {x0 : Series} {a0_0 : Option Addr} {c0_0 : Nat} {x1 : Point} {r : Series × Bool} (h : impl_Publish x0 x1 = some r) (hv0_0 : SlView W x0.Points a0_0 c0_0) :
    Gives Tryz.prog 54 #[vSeries x0 (a0_0, c0_0), vPoint x1] W (fun y : AC => .tuple #[vSeries r.1 y, .bool r.2]) (fun y => [SlRes 52 r.1.Points y.1 y.2]) := by
 unfold impl_Publish at h
 refine en Tryz.func54 Tryz.ntmps54 ?_
 refine qs (qr (oB 4 [(4, .p 2 0), (3, .p 1 0), (2, .p 0 0)] [] [(32, (eSeries x0 (a0_0, c0_0))), (52, (ePoint x1)), (32, [.slice none 0 0])] ?_))
 refine oe (nt (qs ?_))
 obtain ⟨t21, h22, h23⟩ := bS h
 obtain ⟨l27, hm28, h29⟩ := bS h23
 refine JC_cut (τ := AC) (fun y30 => [(6, .p 3 0), (4, .p 2 0), (2, .p 0 0)]) (fun y30 => [(32, (eSeries x0 (a0_0, c0_0))), (52, (ePoint x1)), (32, [.slice none 0 0]), (32, (eSeries (Series.mk l27) y30))]) (fun y30 => [SlRes 52 l27 y30.1 y30.2]) ?_ (fun y30 => ?_)
 · refine jw [4, 3, 2] [] ?_
   refine JC_heldN (ks := [0, 1, 2]) (Rk := []) 9 (by kernel_rfl) (by kernel_rfl) ?_
   refine htq 0 (.p 0 0) [] ?_
   refine htq 1 (.v (.slice a0_0 x0.Points.length c0_0)) [] ?_
   refine hk [8, 4, 3, 2] ?_
   refine htq 3 (.v (vPoint x1)) [] ?_
   refine hk [10, 8, 4, 2] ?_
   refine ha3 2 4 7 ?_ ?_ ?_
   · refine hi (fun γ0 δ hm => ?_)
     refine g1 (fun w hs => c_slices_Clone_Point h22 (hv0_0.kept hs.kept)) (fun y24 => ?_)
     refine gn hm [9, 10, 4, 2] [] ?_
     refine ha2 4 7 ?_ ?_
     · refine hi (fun γ0 δ hm => ?_)
       refine gb [] [SlRes 52 t21 y24.1 y24.2] 52 1 [.int .i64 x1.Month, .int .i64 x1.Known, .int .i64 x1.Value] ([x1] : List Point) (own_flat (by kernel_rfl)) (fun y25 => ?_)
       refine gn hm [11, 9, 4, 2] [] ?_
       refine ha2 5 7 ?_ ?_
       · refine hr_ [1, 0] ?_
         refine hi (fun γ0 δ hm => ?_)
         refine ga 30 y25.2 Tryz.t52 (vPoint (Point.mk 0 0 0)) (fun w hs => ⟨y25.2, (hs.view 1 rfl)⟩) hm28 (fun y26 => ?_)
         refine gn hm [12, 4, 2] [] ?_
         refine htq 6 (.v (vSeries (Series.mk l27) y26)) [] ?_
         refine hk [13, 4, 2] ?_
         refine ha1 7 ?_
         refine hi (fun γ0 δ hm => ?_)
         refine gs [(6, .p 3 0), (13, .v (vSeries (Series.mk l27) y26)), (4, .p 2 0), (2, .p 0 0)] [(32, (eSeries x0 (a0_0, c0_0))), (52, (ePoint x1)), (32, [.slice none 0 0]), (32, [.slice none 0 0])] (fun δ2 => ?_)
         refine gd hm [6, 13, 4, 2] [] ?_
         refine ha1 8 ?_
         refine hi (fun γ0 δ hm => ?_)
         refine gs [(6, .p 3 0), (13, .v (vSeries (Series.mk l27) y26)), (4, .p 2 0), (2, .p 0 0)] [(32, (eSeries x0 (a0_0, c0_0))), (52, (ePoint x1)), (32, [.slice none 0 0]), (32, (eSeries (Series.mk l27) y26))] (fun δ2 => ?_)
         refine gd hm [6, 4, 2] [] ?_
         exact hd y26 [6, 4, 2] [0] 4
       · refine hi (fun γ0 δ hm => ?_)
         refine gs [(6, .p 3 0), (11, .v (.slice y25.1 ([x1] : List Point).length y25.2)), (9, .v (.slice y24.1 t21.length y24.2)), (4, .p 2 0), (2, .p 0 0)] [(32, (eSeries x0 (a0_0, c0_0))), (52, (ePoint x1)), (32, [.slice none 0 0]), (32, [.slice none 0 0])] (fun δ2 => ?_)
         refine gd hm [6, 11, 9, 4, 2] [] ?_
         refine ha1 5 ?_
         refine hr_ [1, 0] ?_
         refine hi (fun γ0 δ hm => ?_)
         refine ga 30 y25.2 Tryz.t52 (vPoint (Point.mk 0 0 0)) (fun w hs => ⟨y25.2, (hs.view 1 rfl)⟩) hm28 (fun y26 => ?_)
         refine gn hm [12, 6, 4, 2] [] ?_
         refine htq 6 (.v (vSeries (Series.mk l27) y26)) [] ?_
         refine hk [13, 6, 4, 2] ?_
         refine ha1 8 ?_
         refine hi (fun γ0 δ hm => ?_)
         refine gs [(13, .v (vSeries (Series.mk l27) y26)), (6, .p 3 0), (4, .p 2 0), (2, .p 0 0)] [(32, (eSeries x0 (a0_0, c0_0))), (52, (ePoint x1)), (32, [.slice none 0 0]), (32, (eSeries (Series.mk l27) y26))] (fun δ2 => ?_)
         refine gd hm [6, 4, 2] [] ?_
         exact hd y26 [6, 4, 2] [0] 4
     · refine hi (fun γ0 δ hm => ?_)
       refine gs [(6, .p 3 0), (9, .v (.slice y24.1 t21.length y24.2)), (10, .v (vPoint x1)), (4, .p 2 0), (2, .p 0 0)] [(32, (eSeries x0 (a0_0, c0_0))), (52, (ePoint x1)), (32, [.slice none 0 0]), (32, [.slice none 0 0])] (fun δ2 => ?_)
       refine gd hm [6, 9, 10, 4, 2] [] ?_
       refine ha1 4 ?_
       refine hi (fun γ0 δ hm => ?_)
       refine gb [] [SlRes 52 t21 y24.1 y24.2] 52 1 [.int .i64 x1.Month, .int .i64 x1.Known, .int .i64 x1.Value] ([x1] : List Point) (own_flat (by kernel_rfl)) (fun y25 => ?_)
       refine gn hm [11, 6, 9, 4, 2] [] ?_
       refine ha1 5 ?_
       refine hr_ [1, 0] ?_
       refine hi (fun γ0 δ hm => ?_)
       refine ga 30 y25.2 Tryz.t52 (vPoint (Point.mk 0 0 0)) (fun w hs => ⟨y25.2, (hs.view 1 rfl)⟩) hm28 (fun y26 => ?_)
       refine gn hm [12, 6, 4, 2] [] ?_
       refine htq 6 (.v (vSeries (Series.mk l27) y26)) [] ?_
       refine hk [13, 6, 4, 2] ?_
       refine ha1 8 ?_
       refine hi (fun γ0 δ hm => ?_)
       refine gs [(13, .v (vSeries (Series.mk l27) y26)), (6, .p 3 0), (4, .p 2 0), (2, .p 0 0)] [(32, (eSeries x0 (a0_0, c0_0))), (52, (ePoint x1)), (32, [.slice none 0 0]), (32, (eSeries (Series.mk l27) y26))] (fun δ2 => ?_)
       refine gd hm [6, 4, 2] [] ?_
       exact hd y26 [6, 4, 2] [0] 4
   · refine hi (fun γ0 δ hm => ?_)
     refine gb [] [] 52 1 [.int .i64 x1.Month, .int .i64 x1.Known, .int .i64 x1.Value] ([x1] : List Point) (own_flat (by kernel_rfl)) (fun y25 => ?_)
     refine gn hm [11, 8, 4, 2] [] ?_
     refine ha2 2 7 ?_ ?_
     · refine hi (fun γ0 δ hm => ?_)
       refine g1 (fun w hs => c_slices_Clone_Point h22 (hv0_0.kept hs.kept)) (fun y24 => ?_)
       refine gn hm [9, 11, 4, 2] [] ?_
       refine ha2 5 7 ?_ ?_
       · refine hi (fun γ0 δ hm => ?_)
         refine ga 30 y25.2 Tryz.t52 (vPoint (Point.mk 0 0 0)) (fun w hs => ⟨y25.2, (hs.view 1 rfl)⟩) hm28 (fun y26 => ?_)
         refine gn hm [12, 4, 2] [] ?_
         refine htq 6 (.v (vSeries (Series.mk l27) y26)) [] ?_
         refine hk [13, 4, 2] ?_
         refine ha1 7 ?_
         refine hi (fun γ0 δ hm => ?_)
         refine gs [(6, .p 3 0), (13, .v (vSeries (Series.mk l27) y26)), (4, .p 2 0), (2, .p 0 0)] [(32, (eSeries x0 (a0_0, c0_0))), (52, (ePoint x1)), (32, [.slice none 0 0]), (32, [.slice none 0 0])] (fun δ2 => ?_)
         refine gd hm [6, 13, 4, 2] [] ?_
         refine ha1 8 ?_
         refine hi (fun γ0 δ hm => ?_)
         refine gs [(6, .p 3 0), (13, .v (vSeries (Series.mk l27) y26)), (4, .p 2 0), (2, .p 0 0)] [(32, (eSeries x0 (a0_0, c0_0))), (52, (ePoint x1)), (32, [.slice none 0 0]), (32, (eSeries (Series.mk l27) y26))] (fun δ2 => ?_)
         refine gd hm [6, 4, 2] [] ?_
         exact hd y26 [6, 4, 2] [0] 4
       · refine hi (fun γ0 δ hm => ?_)
         refine gs [(6, .p 3 0), (9, .v (.slice y24.1 t21.length y24.2)), (11, .v (.slice y25.1 ([x1] : List Point).length y25.2)), (4, .p 2 0), (2, .p 0 0)] [(32, (eSeries x0 (a0_0, c0_0))), (52, (ePoint x1)), (32, [.slice none 0 0]), (32, [.slice none 0 0])] (fun δ2 => ?_)
         refine gd hm [6, 9, 11, 4, 2] [] ?_
         refine ha1 5 ?_
         refine hi (fun γ0 δ hm => ?_)
         refine ga 30 y25.2 Tryz.t52 (vPoint (Point.mk 0 0 0)) (fun w hs => ⟨y25.2, (hs.view 1 rfl)⟩) hm28 (fun y26 => ?_)
         refine gn hm [12, 6, 4, 2] [] ?_
         refine htq 6 (.v (vSeries (Series.mk l27) y26)) [] ?_
         refine hk [13, 6, 4, 2] ?_
         refine ha1 8 ?_
         refine hi (fun γ0 δ hm => ?_)
         refine gs [(13, .v (vSeries (Series.mk l27) y26)), (6, .p 3 0), (4, .p 2 0), (2, .p 0 0)] [(32, (eSeries x0 (a0_0, c0_0))), (52, (ePoint x1)), (32, [.slice none 0 0]), (32, (eSeries (Series.mk l27) y26))] (fun δ2 => ?_)
         refine gd hm [6, 4, 2] [] ?_
         exact hd y26 [6, 4, 2] [0] 4
     · refine hi (fun γ0 δ hm => ?_)
       refine gs [(6, .p 3 0), (11, .v (.slice y25.1 ([x1] : List Point).length y25.2)), (8, .v (.slice a0_0 x0.Points.length c0_0)), (4, .p 2 0), (2, .p 0 0)] [(32, (eSeries x0 (a0_0, c0_0))), (52, (ePoint x1)), (32, [.slice none 0 0]), (32, [.slice none 0 0])] (fun δ2 => ?_)
       refine gd hm [6, 11, 8, 4, 2] [] ?_
       refine ha1 2 ?_
       refine hi (fun γ0 δ hm => ?_)
       refine g1 (fun w hs => c_slices_Clone_Point h22 (hv0_0.kept hs.kept)) (fun y24 => ?_)
       refine gn hm [9, 6, 11, 4, 2] [] ?_
       refine ha1 5 ?_
       refine hi (fun γ0 δ hm => ?_)
       refine ga 30 y25.2 Tryz.t52 (vPoint (Point.mk 0 0 0)) (fun w hs => ⟨y25.2, (hs.view 1 rfl)⟩) hm28 (fun y26 => ?_)
       refine gn hm [12, 6, 4, 2] [] ?_
       refine htq 6 (.v (vSeries (Series.mk l27) y26)) [] ?_
       refine hk [13, 6, 4, 2] ?_
       refine ha1 8 ?_
       refine hi (fun γ0 δ hm => ?_)
       refine gs [(13, .v (vSeries (Series.mk l27) y26)), (6, .p 3 0), (4, .p 2 0), (2, .p 0 0)] [(32, (eSeries x0 (a0_0, c0_0))), (52, (ePoint x1)), (32, [.slice none 0 0]), (32, (eSeries (Series.mk l27) y26))] (fun δ2 => ?_)
       refine gd hm [6, 4, 2] [] ?_
       exact hd y26 [6, 4, 2] [0] 4
   · refine hi (fun γ0 δ hm => ?_)
     refine gs [(6, .p 3 0), (10, .v (vPoint x1)), (8, .v (.slice a0_0 x0.Points.length c0_0)), (4, .p 2 0), (2, .p 0 0)] [(32, (eSeries x0 (a0_0, c0_0))), (52, (ePoint x1)), (32, [.slice none 0 0]), (32, [.slice none 0 0])] (fun δ2 => ?_)
     refine gd hm [6, 10, 8, 4, 2] [] ?_
     refine ha2 2 4 ?_ ?_
     · refine hi (fun γ0 δ hm => ?_)
       refine g1 (fun w hs => c_slices_Clone_Point h22 (hv0_0.kept hs.kept)) (fun y24 => ?_)
       refine gn hm [9, 6, 10, 4, 2] [] ?_
       refine ha1 4 ?_
       refine hi (fun γ0 δ hm => ?_)
       refine gb [] [SlRes 52 t21 y24.1 y24.2] 52 1 [.int .i64 x1.Month, .int .i64 x1.Known, .int .i64 x1.Value] ([x1] : List Point) (own_flat (by kernel_rfl)) (fun y25 => ?_)
       refine gn hm [11, 9, 6, 4, 2] [] ?_
       refine ha1 5 ?_
       refine hr_ [1, 0] ?_
       refine hi (fun γ0 δ hm => ?_)
       refine ga 30 y25.2 Tryz.t52 (vPoint (Point.mk 0 0 0)) (fun w hs => ⟨y25.2, (hs.view 1 rfl)⟩) hm28 (fun y26 => ?_)
       refine gn hm [12, 6, 4, 2] [] ?_
       refine htq 6 (.v (vSeries (Series.mk l27) y26)) [] ?_
       refine hk [13, 6, 4, 2] ?_
       refine ha1 8 ?_
       refine hi (fun γ0 δ hm => ?_)
       refine gs [(13, .v (vSeries (Series.mk l27) y26)), (6, .p 3 0), (4, .p 2 0), (2, .p 0 0)] [(32, (eSeries x0 (a0_0, c0_0))), (52, (ePoint x1)), (32, [.slice none 0 0]), (32, (eSeries (Series.mk l27) y26))] (fun δ2 => ?_)
       refine gd hm [6, 4, 2] [] ?_
       exact hd y26 [6, 4, 2] [0] 4
     · refine hi (fun γ0 δ hm => ?_)
       refine gb [] [] 52 1 [.int .i64 x1.Month, .int .i64 x1.Known, .int .i64 x1.Value] ([x1] : List Point) (own_flat (by kernel_rfl)) (fun y25 => ?_)
       refine gn hm [11, 6, 8, 4, 2] [] ?_
       refine ha1 2 ?_
       refine hi (fun γ0 δ hm => ?_)
       refine g1 (fun w hs => c_slices_Clone_Point h22 (hv0_0.kept hs.kept)) (fun y24 => ?_)
       refine gn hm [9, 11, 6, 4, 2] [] ?_
       refine ha1 5 ?_
       refine hi (fun γ0 δ hm => ?_)
       refine ga 30 y25.2 Tryz.t52 (vPoint (Point.mk 0 0 0)) (fun w hs => ⟨y25.2, (hs.view 1 rfl)⟩) hm28 (fun y26 => ?_)
       refine gn hm [12, 6, 4, 2] [] ?_
       refine htq 6 (.v (vSeries (Series.mk l27) y26)) [] ?_
       refine hk [13, 6, 4, 2] ?_
       refine ha1 8 ?_
       refine hi (fun γ0 δ hm => ?_)
       refine gs [(13, .v (vSeries (Series.mk l27) y26)), (6, .p 3 0), (4, .p 2 0), (2, .p 0 0)] [(32, (eSeries x0 (a0_0, c0_0))), (52, (ePoint x1)), (32, [.slice none 0 0]), (32, (eSeries (Series.mk l27) y26))] (fun δ2 => ?_)
       refine gd hm [6, 4, 2] [] ?_
       exact hd y26 [6, 4, 2] [0] 4
 refine nt (qs (qs ?_))
 obtain ⟨p31, hE32, h33⟩ := bS h29
 refine JC_cut (τ := Unit) (fun _ => [(2, .p 0 0), (4, .p 2 0), (6, .p 3 0), (21, vb p31)]) (fun _ => [(32, (eSeries x0 (a0_0, c0_0))), (52, (ePoint x1)), (32, [.slice none 0 0]), (32, (eSeries (Series.mk l27) y30))]) (fun _ => [SlRes 52 l27 y30.1 y30.2]) ?_ (fun _ => ?_)
 · refine qr (oN 1 [(14, .v (vSeries x0 (a0_0, c0_0)))] [6, 4, 2] ?_)
   obtain ⟨t34, h35, h36⟩ := bS hE32
   refine k0 (fun γ w hs => c_impl_SeriesOk h35 (hv0_0.kept hs.kept)) ?_
   refine oN 2 [(17, vb (!t34))] [6, 4, 2] ?_
   refine oS 17 h36 (fun h39 => ?_) (fun h40 => ?_)
   · refine oN 4 [(21, vb true)] [6, 4, 2] ?_
     refine oe ?_
     obtain rfl := sI h39
     exact mt () [2, 4, 6, 21] [0] 4
   refine oN 1 [(18, .v (vSeries (Series.mk l27) y30))] [17, 6, 4, 2] ?_
   obtain ⟨t41, h42, h43⟩ := bS h40
   refine k0 (fun γ w hs => c_impl_SeriesOk h42 (hs.view 0 rfl)) ?_
   refine oN 2 [(21, vb (!t41))] [6, 4, 2] ?_
   refine oe ?_
   obtain rfl := sI h43
   exact mt () [2, 4, 6, 21] [0] 4
 refine nt (cC h33 (fun h50 => ?_) (fun h51 => ?_))
 · refine qs (qr (oN 1 [(22, .v (vSeries x0 (a0_0, c0_0)))] [4] ?_))
   obtain ⟨t52, h53, h54⟩ := bS h50
   refine k1 (fun γ w hs => c_impl_copySeries h53 (hv0_0.kept hs.kept)) (fun y55 => ?_)
   refine oB 2 [(5, vb false)] [4] [(32, (eSeries x0 (a0_0, c0_0))), (52, (ePoint x1)), (32, (eSeries t52 y55)), (32, (eSeries (Series.mk l27) y30))] ?_
   refine oe (nt (qe (nr (rt [vSeries t52 y55, .bool false] (fun γ w hs => ?_)))))
   rw [← sI h54]
   exact ⟨y55, rfl, hs.kept.toBelow, (hs.takeR (is := [0]) rfl).fresh⟩
 refine qk (nt (qs (qr (oB 3 [(5, vb true)] [4] [(32, (eSeries x0 (a0_0, c0_0))), (52, (ePoint x1)), (32, (eSeries (Series.mk l27) y30)), (32, (eSeries (Series.mk l27) y30))] ?_))))
 refine oe (nt (qe (rt [vSeries (Series.mk l27) y30, .bool true] (fun γ w hs => ?_))))
 rw [← sI h51]
 exact ⟨y30, rfl, hs.kept.toBelow, (hs.takeR (is := [0]) rfl).fresh⟩

theorem c_impl_LearnPoint {W : World} {x0 : Office} {b0 : AC × AC × AC × AC × AC × AC} {x1 : Point} {r : Office × Bool} (h : impl_LearnPoint x0 x1 = some r) (hv0_0 : SlView W x0.Case.Book.Rules b0.1.1 b0.1.2) (hv0_1 : SlView W x0.Case.Store.Facts b0.2.1.1 b0.2.1.2) (hv0_2 : SlView W x0.Case.Series.Points b0.2.2.1.1 b0.2.2.1.2) (hv0_3 : SlView W x0.Case.Member.Spells b0.2.2.2.1.1 b0.2.2.2.1.2) (hv0_4 : SlView W x0.Case.Member.Events b0.2.2.2.2.1.1 b0.2.2.2.2.1.2) (hv0_5 : SlView W x0.Paid b0.2.2.2.2.2.1 b0.2.2.2.2.2.2) :
    Gives Tryz.prog 17 #[vOffice x0 b0, vPoint x1] W (fun y : AC × AC × AC × AC × AC × AC => .tuple #[vOffice r.1 y, .bool r.2]) (fun y => [SlRes 76 r.1.Case.Book.Rules y.1.1 y.1.2, SlRes 47 r.1.Case.Store.Facts y.2.1.1 y.2.1.2, SlRes 52 r.1.Case.Series.Points y.2.2.1.1 y.2.2.1.2, SlRes 156 r.1.Case.Member.Spells y.2.2.2.1.1 y.2.2.2.1.2, SlRes 158 r.1.Case.Member.Events y.2.2.2.2.1.1 y.2.2.2.2.1.2, SlRes 3 r.1.Paid y.2.2.2.2.2.1 y.2.2.2.2.2.2]) := by
 unfold impl_LearnPoint at h
 refine en Tryz.func17 Tryz.ntmps17 ?_
 refine qs (qr (oB 4 [(4, .p 2 0), (3, .p 1 0), (2, .p 0 0)] [] [(41, (eOffice x0 b0)), (52, (ePoint x1)), (41, [.slice none 0 0, .slice none 0 0, .slice none 0 0, .int .i64 0, .int .i64 0, .slice none 0 0, .slice none 0 0, .int .i64 0, .slice none 0 0])] ?_))
 refine oe (nt (qs (qr (oN 1 [(9, .v (vOffice x0 b0))] [4, 3, 2] ?_))))
 obtain ⟨t21, h22, h23⟩ := bS h
 refine k1 (fun γ w hs => c_impl_copyOffice (b0 := b0) h22 (hv0_0.kept hs.kept) (hv0_1.kept hs.kept) (hv0_2.kept hs.kept) (hv0_3.kept hs.kept) (hv0_4.kept hs.kept) (hv0_5.kept hs.kept)) (fun y24 => ?_)
 refine oB 2 [(6, .p 3 0)] [4, 3, 2] [(41, (eOffice x0 b0)), (52, (ePoint x1)), (41, [.slice none 0 0, .slice none 0 0, .slice none 0 0, .int .i64 0, .int .i64 0, .slice none 0 0, .slice none 0 0, .int .i64 0, .slice none 0 0]), (41, (eOffice t21 y24))] ?_
 refine oe (nt (qs (qr (oN 1 [(11, .v (vOffice x0 b0))] [6, 4, 3, 2] ?_))))
 obtain ⟨t25, h26, h27⟩ := bS h23
 refine k0 (fun γ w hs => c_impl_now (b0 := b0) h26 (hv0_0.kept hs.kept) (hv0_1.kept hs.kept) (hv0_2.kept hs.kept) (hv0_3.kept hs.kept) (hv0_4.kept hs.kept) (hv0_5.kept hs.kept)) ?_
 refine oB 2 [] [6, 4, 3, 2] [(41, (eOffice x0 b0)), (52, (ePoint (Point.mk x1.Month t25 x1.Value))), (41, [.slice none 0 0, .slice none 0 0, .slice none 0 0, .int .i64 0, .int .i64 0, .slice none 0 0, .slice none 0 0, .int .i64 0, .slice none 0 0]), (41, (eOffice t21 y24))] ?_
 refine oe (nt (qs (qr (oN 4 [(18, .v (vPoint (Point.mk x1.Month t25 x1.Value))), (17, .v (vSeries x0.Case.Series b0.2.2.1))] [6, 4, 2] ?_))))
 obtain ⟨t29, h30, h31⟩ := bS h27
 refine k1 (fun γ w hs => c_impl_Publish h30 (hv0_2.kept hs.kept)) (fun y32 => ?_)
 refine oB 6 [(8, vb t29.2), (7, .p 4 0)] [6, 4, 2] [(41, (eOffice x0 b0)), (52, (ePoint (Point.mk x1.Month t25 x1.Value))), (41, [.slice none 0 0, .slice none 0 0, .slice none 0 0, .int .i64 0, .int .i64 0, .slice none 0 0, .slice none 0 0, .int .i64 0, .slice none 0 0]), (41, (eOffice t21 y24)), (32, (eSeries t29.1 y32))] ?_
 refine oe (nt (qs (qs ?_)))
 obtain ⟨p33, hE34, h35⟩ := bS h31
 refine JC_cut (τ := Unit) (fun _ => [(4, .p 2 0), (6, .p 3 0), (7, .p 4 0), (28, vb p33)]) (fun _ => [(41, (eOffice x0 b0)), (52, (ePoint (Point.mk x1.Month t25 x1.Value))), (41, [.slice none 0 0, .slice none 0 0, .slice none 0 0, .int .i64 0, .int .i64 0, .slice none 0 0, .slice none 0 0, .int .i64 0, .slice none 0 0]), (41, (eOffice t21 y24)), (32, (eSeries t29.1 y32))]) (fun _ => [SlRes 76 t21.Case.Book.Rules y24.1.1 y24.1.2, SlRes 47 t21.Case.Store.Facts y24.2.1.1 y24.2.1.2, SlRes 52 t21.Case.Series.Points y24.2.2.1.1 y24.2.2.1.2, SlRes 156 t21.Case.Member.Spells y24.2.2.2.1.1 y24.2.2.2.1.2, SlRes 158 t21.Case.Member.Events y24.2.2.2.2.1.1 y24.2.2.2.2.1.2, SlRes 3 t21.Paid y24.2.2.2.2.2.1 y24.2.2.2.2.2.2, SlRes 52 t29.1.Points y32.1 y32.2]) ?_ (fun _ => ?_)
 · refine qr (oN 3 [(24, vb (!t29.2))] [7, 6, 4, 2] ?_)
   refine oS 24 hE34 (fun h37 => ?_) (fun h38 => ?_)
   · refine oN 4 [(28, vb true)] [7, 6, 4] ?_
     refine oe ?_
     obtain rfl := sI h37
     exact mt () [4, 6, 7, 28] [1, 1, 1, 1, 1, 1, 0] 5
   refine oN 1 [(25, .v (vOffice x0 b0))] [24, 7, 6, 4] ?_
   obtain ⟨t39, h40, h41⟩ := bS h38
   refine k0 (fun γ w hs => c_impl_OfficeOk (b0 := b0) h40 (hv0_0.kept hs.kept) (hv0_1.kept hs.kept) (hv0_2.kept hs.kept) (hv0_3.kept hs.kept) (hv0_4.kept hs.kept) (hv0_5.kept hs.kept)) ?_
   refine oN 2 [(28, vb (!t39))] [7, 6, 4] ?_
   refine oe ?_
   obtain rfl := sI h41
   exact mt () [4, 6, 7, 28] [1, 1, 1, 1, 1, 1, 0] 5
 refine nt (cC h35 (fun h44 => ?_) (fun h45 => ?_))
 · refine qs (qr (oB 3 [(5, vb false)] [4] [(41, (eOffice x0 b0)), (52, (ePoint (Point.mk x1.Month t25 x1.Value))), (41, (eOffice t21 y24)), (41, (eOffice t21 y24)), (32, (eSeries t29.1 y32))] ?_))
   refine oe (nt (qe (nr (rt [vOffice t21 y24, .bool false] (fun γ w hs => ?_)))))
   rw [← sI h44]
   exact ⟨(y24.1, y24.2.1, y24.2.2.1, y24.2.2.2.1, y24.2.2.2.2.1, y24.2.2.2.2.2), rfl, hs.kept.toBelow, (hs.takeR (is := [0, 0, 0, 0, 0, 0]) rfl).fresh⟩
 refine qk (nt (qs (qr (oB 4 [] [4, 6] [(41, (eOffice x0 b0)), (52, (ePoint (Point.mk x1.Month t25 x1.Value))), (41, [.slice none 0 0, .slice none 0 0, .slice none 0 0, .int .i64 0, .int .i64 0, .slice none 0 0, .slice none 0 0, .int .i64 0, .slice none 0 0]), (41, (eOffice (Office.mk (Case.mk t21.Case.Book t21.Case.Store t29.1 t21.Case.Member) t21.Start t21.Paid) (y24.1, y24.2.1, y32, y24.2.2.2.1, y24.2.2.2.2.1, y24.2.2.2.2.2))), (32, (eSeries t29.1 y32))] ?_))))
 refine oe (nt (qs (qr (oB 3 [(5, vb true)] [4] [(41, (eOffice x0 b0)), (52, (ePoint (Point.mk x1.Month t25 x1.Value))), (41, (eOffice (Office.mk (Case.mk t21.Case.Book t21.Case.Store t29.1 t21.Case.Member) t21.Start t21.Paid) (y24.1, y24.2.1, y32, y24.2.2.2.1, y24.2.2.2.2.1, y24.2.2.2.2.2))), (41, (eOffice (Office.mk (Case.mk t21.Case.Book t21.Case.Store t29.1 t21.Case.Member) t21.Start t21.Paid) (y24.1, y24.2.1, y32, y24.2.2.2.1, y24.2.2.2.2.1, y24.2.2.2.2.2))), (32, (eSeries t29.1 y32))] ?_))))
 refine oe (nt (qe (rt [vOffice (Office.mk (Case.mk t21.Case.Book t21.Case.Store t29.1 t21.Case.Member) t21.Start t21.Paid) (y24.1, y24.2.1, y32, y24.2.2.2.1, y24.2.2.2.2.1, y24.2.2.2.2.2), .bool true] (fun γ w hs => ?_))))
 rw [← sI h45]
 exact ⟨(y24.1, y24.2.1, y32, y24.2.2.2.1, y24.2.2.2.2.1, y24.2.2.2.2.2), rfl, hs.kept.toBelow, (hs.takeR (is := [0, 0, 4, 1, 1, 1]) rfl).fresh⟩

theorem c_impl_total {W : World} {x0 : List Int} {a0_0 : Option Addr} {c0_0 : Nat} {r : Int} (h : impl_total x0 = some r) (hv0_0 : SlView W x0 a0_0 c0_0) :
    Gives0 Tryz.prog 68 #[.slice a0_0 x0.length c0_0] W (.int .i64 r) := by
 unfold impl_total at h
 refine en Tryz.func68 Tryz.ntmps68 ?_
 refine qs (qr (oN 1 [] [0] ?_))
 refine oe (nt (qs (qr (oN 1 [(3, vi 0)] [0] ?_))))
 refine oe (nt (qs (qs (qr (oN 3 [(8, vi 0), (7, vi (x0.length : Int)), (6, .v (.slice a0_0 x0.length c0_0))] [3] ?_)))))
 refine oe (nt ?_)
 obtain ⟨r24, hL25, h26⟩ := bS h
 obtain ⟨k27, hk28, h26⟩ := brkS h26
 refine JC_cutP (τ := (Int) × (Unit)) (fun y => k27 y.1 = some r) (fun y32 => [(3, vi y32.1)]) (fun y32 => []) (fun y32 => []) ?_ (fun y32 h33p => ?_)
 · refine qb (lp Unit hL25 (fun s21 y22 => [(8, vi s21.1), (7, vi (x0.length : Int)), (6, .v (.slice a0_0 x0.length c0_0)), (3, vi s21.2)]) (fun s21 y22 => []) (fun s21 y22 => []) () [8, 7, 6, 3] [] 0 (fun s21 y22 t23 h29 hd30 => ?_))
   refine qs (qr (oN 1 [(9, vb (decide (s21.1 < (x0.length : Int))))] [8, 7, 6, 3] ?_))
   refine oe (nt (qs (cC h29 (fun h35 => ?_) (fun h36 => ?_))))
   · refine qk (nt (qs (qb (qs (qr ?_)))))
     obtain ⟨x37, hx38, h39⟩ := bS h35
     refine oi 1 (fun γ w hs => (hv0_0.kept hs.kept)) hx38 ?_
     refine ol 3 0 (.int .i64 x37) (fun γ w hs => (hv0_0.kept hs.kept).flatq hx38) ?_
     refine oN 1 [(5, vi x37)] [8, 7, 6, 3] ?_
     refine oe (nt (qr (oN 4 [(3, vi (w64 (s21.2 + x37)))] [8, 7, 6] ?_)))
     refine oe (bn (nt (qr (oN 2 [(8, vi (w64 (s21.1 + 1)))] [3, 7, 6] ?_))))
     exact oe (ct h39 () [8, 7, 6, 3] [] 0)
   refine qx (nx (nx (bh ?_)))
   have h40 := leafB hd30 h36 h26
   exact mp (s21.2, ()) h40 [3] [] 0
 have h33 := (congrFun hk28 _).symm.trans h33p
 refine nt (qs (qr (oN 2 [(2, vi y32.1)] [] ?_)))
 refine oe (nt (qe ?_))
 obtain rfl := sI h33
 exact re [.int .i64 y32.1]

theorem c_impl_StatusAt {W : World} {x0 : List Event} {a0_0 : Option Addr} {c0_0 : Nat} {x1 : Int} {r : Int} (h : impl_StatusAt x0 x1 = some r) (hv0_0 : SlView W x0 a0_0 c0_0) :
    Gives0 Tryz.prog 102 #[.slice a0_0 x0.length c0_0, .int .i64 x1] W (.int .i64 r) := by
 unfold impl_StatusAt at h
 refine en Tryz.func102 Tryz.ntmps102 ?_
 refine qs (qr (oN 1 [] [0, 1] ?_))
 refine oe (nt (qs (qr (oN 1 [(5, vi 0)] [0, 1] ?_))))
 refine oe (nt (qs (qs (qr (oN 1 [(8, .v (.slice a0_0 x0.length c0_0))] [5, 0, 1] ?_)))))
 obtain ⟨t21, h22, h23⟩ := bS h
 refine k0 (fun γ w hs => c_impl_EventsOk h22 (hv0_0.kept hs.kept)) ?_
 refine oN 1 [(10, vb (!t21))] [5, 0, 1] ?_
 refine oe (nt (cC h23 (fun h26 => ?_) (fun h27 => ?_)))
 · refine qs (qr (oN 2 [(4, vi 0)] [] ?_))
   refine oe (nt (qe (nr ?_)))
   obtain rfl := sI h26
   exact re [.int .i64 0]
 refine qk (nt (qs (qs (qr (oN 3 [(14, vi 0), (13, vi (x0.length : Int)), (12, .v (.slice a0_0 x0.length c0_0))] [5, 1] ?_)))))
 refine oe (nt ?_)
 obtain ⟨r31, hL32, h33⟩ := bS h27
 obtain ⟨k34, hk35, h33⟩ := brkS h33
 refine JC_cutP (τ := (Int) × (Unit)) (fun y => k34 y.1 = some r) (fun y39 => [(5, vi y39.1)]) (fun y39 => []) (fun y39 => []) ?_ (fun y39 h40p => ?_)
 · refine qb (lp Unit hL32 (fun s28 y29 => [(14, vi s28.1), (13, vi (x0.length : Int)), (12, .v (.slice a0_0 x0.length c0_0)), (5, vi s28.2), (1, vi x1)]) (fun s28 y29 => []) (fun s28 y29 => []) () [14, 13, 12, 5, 1] [] 0 (fun s28 y29 t30 h36 hd37 => ?_))
   refine qs (qr (oN 1 [(15, vb (decide (s28.1 < (x0.length : Int))))] [14, 13, 12, 5, 1] ?_))
   refine oe (nt (qs (cC h36 (fun h42 => ?_) (fun h43 => ?_))))
   · refine qk (nt (qs (qb (qs (qr ?_)))))
     obtain ⟨x44, hx45, h46⟩ := bS h42
     refine oi 2 (fun γ w hs => (hv0_0.kept hs.kept)) hx45 ?_
     refine ol 158 0 (vEvent x44) (fun γ w hs => (hv0_0.kept hs.kept).flatq hx45) ?_
     refine oB 2 [(7, .p 0 0)] [14, 13, 12, 5, 1] [(158, (eEvent x44))] ?_
     refine oe (nt (qs (qr (oN 4 [(21, vb (decide (x44.Month ≤ x1)))] [7, 14, 13, 12, 5, 1] ?_))))
     refine oe (nt ?_)
     obtain ⟨k54, hk55, h57⟩ := jS h46
     refine JC_cutP (τ := (Int) × (Unit)) (fun y => k54 y.1 = some t30) (fun y53 => [(14, vi s28.1), (13, vi (x0.length : Int)), (12, .v (.slice a0_0 x0.length c0_0)), (5, vi y53.1), (1, vi x1)]) (fun y53 => [(158, (eEvent x44))]) (fun y53 => []) ?_ (fun y53 h56p => ?_)
     · refine cC h57 (fun h59 => ?_) (fun h60 => ?_)
       · refine qr (oN 3 [(25, vi x44.Kind), (23, vi s28.2)] [14, 13, 12, 1] ?_)
         obtain ⟨t61, h62, h63⟩ := bS h59
         refine k0 (fun γ w hs => c_impl_StatusAfter h62) ?_
         refine oN 4 [(5, vi t61.1)] [14, 13, 12, 1] ?_
         exact oe (mp (t61.1, ()) h63 [14, 13, 12, 5, 1] [] 1)
       exact qk (mp (s28.2, ()) h60 [14, 13, 12, 5, 1] [] 1)
     have h56 := (congrFun hk55 _).symm.trans h56p
     refine bn (nt (qr (oN 2 [(14, vi (w64 (s28.1 + 1)))] [13, 12, 5, 1] ?_)))
     exact oe (ct h56 () [14, 13, 12, 5, 1] [] 0)
   refine qx (nx (nx (bh ?_)))
   have h65 := leafB hd37 h43 h33
   exact mp (s28.2, ()) h65 [5] [] 0
 have h40 := (congrFun hk35 _).symm.trans h40p
 refine nt (qs (qr (oN 2 [(4, vi y39.1)] [] ?_)))
 refine oe (nt (qe ?_))
 obtain rfl := sI h40
 exact re [.int .i64 y39.1]

theorem c_impl_isEnd {W : World} {x0 : Int} {r : Bool} (h : impl_isEnd x0 = some r)  :
    Gives0 Tryz.prog 119 #[.int .i64 x0] W (.bool r) := by
 unfold impl_isEnd at h
 refine en Tryz.func119 Tryz.ntmps119 ?_
 refine qs (qr (oN 1 [] [0] ?_))
 refine oe (nt (qs (qr (oN 1 [(3, vi x0)] [] ?_))))
 obtain ⟨t21, h22, h23⟩ := bS h
 refine k0 (fun γ w hs => c_impl_within h22) ?_
 refine oN 1 [(2, vb t21)] [] ?_
 refine oe (nt (qe ?_))
 obtain rfl := sI h23
 exact re [.bool t21]

/-- Which function value slices.Backward gives. -/
theorem back_Fact_new (ad : Option Addr) (n cap : Nat) (w : World) : Calls Tryz.prog 200 #[.slice ad n cap] w fun e w' => e = .returned (.func (.func 209) #[] #[.pointer (some ⟨w.heap.size, 0, none⟩)]) ∧ w' = w.alloc (.cells #[.slice ad n cap] 27) := by
  refine (callsIn_wide (n := 5)).1 (callsIn_of_wp Tryz.func200 rfl trivial ?_ rfl)
  simp only [Tryz.ntmps200, List.size_toArray, List.length_cons, List.length_nil, Nat.reduceAdd, Nat.reduceSub, Array.replicate_succ, Array.replicate_zero, List.push_toArray, List.append_toArray, List.nil_append, List.cons_append]
  gi_wp2
  go_ret
  exact ⟨rfl, rfl⟩

set_option maxHeartbeats 1000000 in
/-- The iterator over a slice from its end. -/
theorem back_Fact {W0 : World} {xs : List Fact} {ad : Option Addr} {cap : Nat} (hv : SlView W0 xs ad cap) (hlen : xs.length ≤ 1099511627776) (m : Nat) (Bn : Nat) (w1 : World) (hb1 : Below W0.heap.size W0 w1) (hB0 : W0.heap.size ≤ Bn) (hbox : w1.heap[Bn]? = some (.cells #[.slice ad xs.length cap] 27 (0, 0))) :
    SeqStopsK Fence.wide m Tryz.prog 209 #[.pointer (some ⟨Bn, 0, none⟩)] (fun x : Int × Fact => #[.int .i64 x.1, .agg #[.int .i64 x.2.Key, .int .i64 x.2.From, .int .i64 x.2.To, .int .i64 x.2.Known, .int .i64 x.2.Value]]) (KpB W0.heap.size Bn) (fun ys => ys.map (·.2) = xs.reverse) (fun pre => ∃ k, pre.map (·.2) = xs.reverse.take k) xs.length w1 := by
  intro l J Jx W hW hJ hJx hY h0
  have hbl := (Array.getElem?_eq_some_iff.1 hbox).1
  have hbW : W.heap[Bn]? = some (.cells #[.slice ad xs.length cap] 27 (0, 0)) := (hW.block Bn hbl).trans hbox
  have hBW : Below W0.heap.size W0 W := hb1.trans (hW.mono hb1.size)
  have hview : ∀ X, Below W0.heap.size W0 X → SlView X xs ad cap := fun X h => hv.stable (fun g hg => h.block g hg)
  refine callsIn_of_wp Tryz.func209 rfl trivial ?_ rfl
  rw [Tryz.ntmps209]
  refine (show JCI Fence.wide m Tryz.prog (fun _ => False) W [] 19 [] _ (argSV 0 [.v (.func (.yield l) #[] #[]), .q (some ⟨Bn, 0, none⟩) 0]) [] [] _ from ?_) [] _ W (live_args (args := [.func (.yield l) #[] #[], .pointer (some ⟨Bn, 0, none⟩)]) [.v (.func (.yield l) #[] #[]), .q (some ⟨Bn, 0, none⟩) 0] (by simp [SV.den]) rfl rfl) (sat_start W)
  refine JCI_seq ?_
  refine JCI_region ?_
  refine JOI_loadq wl_wide rfl rfl (by kernel_rfl) (t := 27) (d := some ⟨Bn, 0, none⟩) 0 0 (by kernel_rfl) (cs := [.slice ad xs.length cap]) (v := .slice ad xs.length cap) (fun γ w hs => ⟨by simp, (CellsAt.ofBox hbW).kept hs.kept⟩) (by kernel_rfl) (sl' := (4, .v (.slice ad xs.length cap)) :: [(0, .v (.func (.yield l) #[] #[])), (1, .q (some ⟨Bn, 0, none⟩) 0)]) (by kernel_rfl) ?_
  refine JOI_stepsK wl_wide 3 [3, 0, 1] (by kernel_rfl) (sl' := (3, .v (.int .i64 (w64 ((xs.length : Int) - 1)))) :: [(0, .v (.func (.yield l) #[] #[])), (1, .q (some ⟨Bn, 0, none⟩) 0)]) (bx' := []) (by kernel_rfl) ?_
  refine JOI_end (by kernel_rfl) ?_
  refine JEI_then ?_
  refine JCI_block ?_
  intro δ a w hl hs
  obtain rfl : δ = [] := List.length_eq_zero_iff.1 (by simpa using hs.len)
  refine wpIn_loop (fun a w => ∃ (pre : List (Int × Fact)) (k : Nat), k ≤ xs.length ∧ pre.map (·.2) = xs.reverse.take (xs.length - k) ∧ LiveD [] 19 [] ((3, .v (.int .i64 ((k : Int) - 1))) :: [(0, .v (.func (.yield l) #[] #[])), (1, .q (some ⟨Bn, 0, none⟩) 0)]) a ∧ J pre w ∧ Below W0.heap.size W0 w ∧ w.heap[Bn]? = some (.cells #[.slice ad xs.length cap] 27 (0, 0)))
    (fun a w => mu3 a)
    ⟨[], xs.length, Nat.le_refl _, by simp, by rw [w64_id (by omega)] at hl; exact hl, abides_kept hJ h0 hs.kept, hBW.trans (hs.kept.below hBW.size), (hs.kept.block Bn (Array.getElem?_eq_some_iff.1 hbW).1 (fun x => x)).trans hbW⟩ ?_
  rintro a w ⟨pre, k, hk, hpre, hl, hJ1, hB1, hbx⟩
  have hmu : mu3 a = k := by
    rw [mu3_of hl rfl]
    omega
  rw [hmu]
  have hprel : pre.length = xs.length - k := by
    have := congrArg List.length hpre
    simpa using this
  refine (show JCI Fence.wide m Tryz.prog (fun _ => False) w [] 19 [] _ ((3, .v (.int .i64 ((k : Int) - 1))) :: [(0, .v (.func (.yield l) #[] #[])), (1, .q (some ⟨Bn, 0, none⟩) 0)]) [] [] _ from ?_) [] a w hl (sat_start w)
  refine JCI_seq ?_
  refine JCI_seq ?_
  refine JCI_region ?_
  refine JOI_stepsK wl_wide 2 [8, 3, 0, 1] (by kernel_rfl) (sl' := (8, .v (.bool (decide ((k : Int) - 1 ≥ 0)))) :: (3, .v (.int .i64 ((k : Int) - 1))) :: [(0, .v (.func (.yield l) #[] #[])), (1, .q (some ⟨Bn, 0, none⟩) 0)]) (bx' := []) (by kernel_rfl) ?_
  refine JOI_end (by kernel_rfl) ?_
  refine JEI_then ?_
  refine JCI_cond (decide ((k : Int) - 1 ≥ 0)) (by kernel_rfl) (fun hb => ?_) (fun hb => ?_)
  · have hk1 : 1 ≤ k := by have := of_decide_eq_true hb; omega
    obtain ⟨x, hx⟩ : ∃ x, xs[k - 1]? = some x := ⟨_, List.getElem?_eq_getElem (by omega)⟩
    have hidx : idx xs ((k : Int) - 1) = some x := by
      unfold idx
      rw [if_pos (by omega), show ((k : Int) - 1).toNat = k - 1 by omega]
      exact hx
    refine JCI_skip ?_
    refine JEI_then ?_
    refine JCI_seq ?_
    refine JCI_block ?_
    refine JCI_seq ?_
    refine JCI_region ?_
    refine JOI_stepsK wl_wide 2 [12, 11, 3, 0, 1] (by kernel_rfl) (sl' := (12, .v (.int .i64 ((k : Int) - 1))) :: (11, .v (.func (.yield l) #[] #[])) :: (3, .v (.int .i64 ((k : Int) - 1))) :: [(0, .v (.func (.yield l) #[] #[])), (1, .q (some ⟨Bn, 0, none⟩) 0)]) (bx' := []) (by kernel_rfl) ?_
    refine JOI_loadq wl_wide rfl rfl (by kernel_rfl) (t := 27) (d := some ⟨Bn, 0, none⟩) 0 0 (by kernel_rfl) (cs := [.slice ad xs.length cap]) (v := .slice ad xs.length cap) (fun γ w hs => ⟨by simp, (CellsAt.ofBox hbx).kept hs.kept⟩) (by kernel_rfl) (sl' := (13, .v (.slice ad xs.length cap)) :: (12, .v (.int .i64 ((k : Int) - 1))) :: (11, .v (.func (.yield l) #[] #[])) :: (3, .v (.int .i64 ((k : Int) - 1))) :: [(0, .v (.func (.yield l) #[] #[])), (1, .q (some ⟨Bn, 0, none⟩) 0)]) (by kernel_rfl) ?_
    refine JOI_stepsK wl_wide 1 [14, 13, 12, 11, 3, 0, 1] (by kernel_rfl) (sl' := (14, .v (.int .i64 ((k : Int) - 1))) :: (13, .v (.slice ad xs.length cap)) :: (12, .v (.int .i64 ((k : Int) - 1))) :: (11, .v (.func (.yield l) #[] #[])) :: (3, .v (.int .i64 ((k : Int) - 1))) :: [(0, .v (.func (.yield l) #[] #[])), (1, .q (some ⟨Bn, 0, none⟩) 0)]) (bx' := []) (by kernel_rfl) ?_
    refine JOI_index wl_wide rfl rfl (by kernel_rfl) (d := ad) (mm := xs.length) (j := (k : Int) - 1) (s := 5) (by kernel_rfl) (fun γ w' hs => (hview w hB1).kept hs.kept) rfl hidx (sl' := (15, .q ad (Int.toNat ((k : Int) - 1) * 5)) :: (14, .v (.int .i64 ((k : Int) - 1))) :: (13, .v (.slice ad xs.length cap)) :: (12, .v (.int .i64 ((k : Int) - 1))) :: (11, .v (.func (.yield l) #[] #[])) :: (3, .v (.int .i64 ((k : Int) - 1))) :: [(0, .v (.func (.yield l) #[] #[])), (1, .q (some ⟨Bn, 0, none⟩) 0)]) (by kernel_rfl) ?_
    refine JOI_loadq wl_wide rfl rfl (by kernel_rfl) (t := 47) (d := ad) (Int.toNat ((k : Int) - 1) * 5) 0 (by kernel_rfl) (cs := [.int .i64 x.Key, .int .i64 x.From, .int .i64 x.To, .int .i64 x.Known, .int .i64 x.Value]) (v := .agg #[.int .i64 x.Key, .int .i64 x.From, .int .i64 x.To, .int .i64 x.Known, .int .i64 x.Value]) (fun γ w' hs => ((hview w hB1).kept hs.kept).flatq hidx) (by kernel_rfl) (sl' := (16, .v (.agg #[.int .i64 x.Key, .int .i64 x.From, .int .i64 x.To, .int .i64 x.Known, .int .i64 x.Value])) :: (15, .q ad (Int.toNat ((k : Int) - 1) * 5)) :: (14, .v (.int .i64 ((k : Int) - 1))) :: (13, .v (.slice ad xs.length cap)) :: (12, .v (.int .i64 ((k : Int) - 1))) :: (11, .v (.func (.yield l) #[] #[])) :: (3, .v (.int .i64 ((k : Int) - 1))) :: [(0, .v (.func (.yield l) #[] #[])), (1, .q (some ⟨Bn, 0, none⟩) 0)]) (by kernel_rfl) ?_
    refine JOI_yield wl_wide rfl rfl (by kernel_rfl) rfl rfl (y := l) (by kernel_rfl) (args := [.int .i64 ((k : Int) - 1), .agg #[.int .i64 x.Key, .int .i64 x.From, .int .i64 x.To, .int .i64 x.Known, .int .i64 x.Value]]) (by kernel_rfl) rfl (by kernel_rfl) (fun γ w' hs => hY pre ((k : Int) - 1, x) w' (abides_kept hJ hJ1 hs.kept) (by omega)) ?_
    rintro γ w' hs e W3 (⟨rfl, hJ3, hk3⟩ | ⟨rfl, hJx3⟩)
    · refine ⟨true, rfl, fun a' hla => ?_⟩
      have hg0 : γ = [] := List.length_eq_zero_iff.1 (by simpa using hs.len)
      subst hg0
      have hBw' : Below W0.heap.size W0 w' := hB1.trans (hs.kept.below hB1.size)
      have hbx' : w'.heap[Bn]? = some (.cells #[.slice ad xs.length cap] 27 (0, 0)) := (hs.kept.block Bn (Array.getElem?_eq_some_iff.1 hbx).1 (fun x => x)).trans hbx
      have hB3 : Below W0.heap.size W0 W3 := hBw'.trans hk3.1
      have hbx3 : W3.heap[Bn]? = some (.cells #[.slice ad xs.length cap] 27 (0, 0)) := hk3.2.trans hbx'
      refine (show JOI Fence.wide m Tryz.prog (fun _ => False) W3 [] 19 [] _ _ _ [] [] _ from ?_) [] a' W3 hla (sat_start W3)
      refine JOI_stepsK wl_wide 1 [18, 3, 0, 1] (by kernel_rfl) (sl' := (18, .v (.bool false)) :: (3, .v (.int .i64 ((k : Int) - 1))) :: [(0, .v (.func (.yield l) #[] #[])), (1, .q (some ⟨Bn, 0, none⟩) 0)]) (bx' := []) (by kernel_rfl) ?_
      refine JOI_end (by kernel_rfl) ?_
      refine JEI_then ?_
      refine JCI_cond false (by kernel_rfl) (fun h => by cases h) (fun _ => ?_)
      refine JCI_skip ?_
      refine JEI_block_normal ?_
      refine JEI_then ?_
      refine JCI_region ?_
      refine JOI_stepsK wl_wide 3 [3, 0, 1] (by kernel_rfl) (sl' := (3, .v (.int .i64 (w64 ((k : Int) - 1 - 1)))) :: [(0, .v (.func (.yield l) #[] #[])), (1, .q (some ⟨Bn, 0, none⟩) 0)]) (bx' := []) (by kernel_rfl) ?_
      refine JOI_end (by kernel_rfl) ?_
      intro δ2 a2 w2 hl2 hs2
      obtain rfl : δ2 = [] := List.length_eq_zero_iff.1 (by simpa using hs2.len)
      have e1 : w64 ((k : Int) - 1 - 1) = ((k - 1 : Nat) : Int) - 1 := by rw [w64_id (by omega)]; omega
      rw [e1] at hl2
      refine ⟨⟨pre ++ [((k : Int) - 1, x)], k - 1, by omega, ?_, hl2, abides_kept hJ hJ3 hs2.kept, hB3.trans (hs2.kept.below hB3.size), (hs2.kept.block Bn (Array.getElem?_eq_some_iff.1 hbx3).1 (fun x => x)).trans hbx3⟩, ?_⟩
      · rw [List.map_append, hpre, show xs.length - (k - 1) = (xs.length - k) + 1 by omega, List.take_add_one, List.getElem?_reverse (by omega), show xs.length - 1 - (xs.length - k) = k - 1 by omega, hx]
        rfl
      · rw [mu3_of hl2 rfl]
        omega
    · refine ⟨false, rfl, fun a' hla => ?_⟩
      have hg0 : γ = [] := List.length_eq_zero_iff.1 (by simpa using hs.len)
      subst hg0
      refine (show JOI Fence.wide m Tryz.prog (fun _ => False) W3 [] 19 [] _ _ _ [] [] _ from ?_) [] a' W3 hla (sat_start W3)
      refine JOI_stepsK wl_wide 1 [18] (by kernel_rfl) (sl' := [(18, .v (.bool true))]) (bx' := []) (by kernel_rfl) ?_
      refine JOI_end (by kernel_rfl) ?_
      refine JEI_then ?_
      refine JCI_cond true (by kernel_rfl) (fun _ => ?_) (fun h => by cases h)
      refine JCI_ret ?_
      intro δ2 a2 w2 hl2 hs2
      have h9 := results_ok (P := Tryz.prog) (fn := Tryz.f209) (a := { a2 with defers := [] }) (vs := []) hl2.1 hs2 (by kernel_rfl)
      refine ⟨hl2.2, _, h9, ⟨_, rfl⟩, .inr ⟨pre ++ [((k : Int) - 1, x)], ⟨xs.length - (k - 1), ?_⟩, abides_kept hJx hJx3 hs2.kept⟩⟩
      rw [List.map_append, hpre, show xs.length - (k - 1) = (xs.length - k) + 1 by omega, List.take_add_one, List.getElem?_reverse (by omega), show xs.length - 1 - (xs.length - k) = k - 1 by omega, hx]
      rfl
  · have hk0 : k = 0 := by have := of_decide_eq_false hb; omega
    subst hk0
    refine JCI_exit ?_
    refine JEI_then_exit ?_
    refine JEI_then_exit ?_
    refine JEI_block_hit ?_
    intro δ2 a2 w2 hl2 hs2
    have h9 := results_ok (P := Tryz.prog) (fn := Tryz.f209) (a := { a2 with defers := [] }) (vs := []) hl2.1 hs2 (by kernel_rfl)
    refine ⟨hl2.2, _, h9, ⟨_, rfl⟩, .inl ⟨pre, ?_, abides_kept hJ hJ1 hs2.kept⟩⟩
    show pre.map (·.2) = xs.reverse
    rw [hpre, Nat.sub_zero, List.take_of_length_le (by simp)]

theorem c_impl_ValueAt {W : World} {x0 : Store} {a0 : Option Addr} {c0 : Nat} {x1 x2 x3 : Int} {r : Int × Bool} (h : impl_ValueAt x0 x1 x2 x3 = some r) (hv : SlView W x0.Facts a0 c0) :
    Gives0 Tryz.prog 180 #[.agg #[.slice a0 x0.Facts.length c0], .int .i64 x1, .int .i64 x2, .int .i64 x3] W (.tuple #[.int .i64 r.1, .bool r.2]) := by
  unfold impl_ValueAt at h
  cases hlb : decide ((x0.Facts.length : Int) ≤ 1099511627776) with
  | false => rw [hlb] at h; cases h
  | true =>
  rw [hlb] at h
  have hlen : x0.Facts.length ≤ 1099511627776 := by have := of_decide_eq_true hlb; omega
  replace h := Option.some.inj h
  refine enterMk (args := [.agg #[.slice a0 x0.Facts.length c0], .int .i64 x1, .int .i64 x2, .int .i64 x3]) 9 Tryz.func180 rfl Tryz.ntmps180 (by kernel_rfl) ?_
  refine JCI_seq ?_
  refine JCI_region ?_
  refine JOI_stepsK wl_wide 6 [4, 5, 6, 7, 8, 9] (by kernel_rfl) (sl' := [(4, .p 0 0), (5, .p 1 0), (6, .p 2 0), (7, .p 3 0), (8, .p 4 0), (9, .p 5 0)]) (bx' := [(29, [.slice a0 x0.Facts.length c0]), (3, [.int .i64 x1]), (3, [.int .i64 x2]), (3, [.int .i64 x3]), (3, [.int .i64 0]), (4, [.bool false])]) (by kernel_rfl) ?_
  refine JOI_end (by kernel_rfl) ?_
  refine JEI_then ?_
  refine JCI_seq ?_
  refine JCI_seq ?_
  refine JCI_region ?_
  refine JOI_stepsK wl_wide 2 [13, 4, 5, 6, 7, 8, 9] (by kernel_rfl) (sl' := [(13, .v (.slice a0 x0.Facts.length c0)), (4, .p 0 0), (5, .p 1 0), (6, .p 2 0), (7, .p 3 0), (8, .p 4 0), (9, .p 5 0)]) (bx' := [(29, [.slice a0 x0.Facts.length c0]), (3, [.int .i64 x1]), (3, [.int .i64 x2]), (3, [.int .i64 x3]), (3, [.int .i64 0]), (4, [.bool false])]) (by kernel_rfl) ?_
  refine JOI_callbox wl_wide rfl rfl (by kernel_rfl) (f := 200) (gf := 209) (args := #[.slice a0 x0.Facts.length c0]) (by kernel_rfl) (e := 27) (cs := [.slice a0 x0.Facts.length c0]) (fun w => back_Fact_new a0 x0.Facts.length c0 w) (sl' := [(14, .f 209 [(6, 0)]), (13, .v (.slice a0 x0.Facts.length c0)), (4, .p 0 0), (5, .p 1 0), (6, .p 2 0), (7, .p 3 0), (8, .p 4 0), (9, .p 5 0)]) (by kernel_rfl) ?_
  refine JOI_end (by kernel_rfl) ?_
  refine JEI_then ?_
  refine JCI_block ?_
  refine JCI_back (xs := x0.Facts) (kb := 6) (gf := 209) (slB := [(11, .p 7 0), (5, .p 1 0), (6, .p 2 0), (7, .p 3 0), (8, .p 4 0), (9, .p 5 0)]) (ad := a0) (cap := c0) (tS := 27) (tv := 47) (bx := [(29, [.slice a0 x0.Facts.length c0]), (3, [.int .i64 x1]), (3, [.int .i64 x2]), (3, [.int .i64 x3]), (3, [.int .i64 0]), (4, [.bool false]), (27, [.slice a0 x0.Facts.length c0])])
    (fun x => .agg #[.int .i64 x.Key, .int .i64 x.From, .int .i64 x.To, .int .i64 x.Known, .int .i64 x.Value]) (hitFact x1 x2 x3) (fun v => [(29, [.slice a0 x0.Facts.length c0]), (3, [.int .i64 x1]), (3, [.int .i64 x2]), (3, [.int .i64 x3]), (3, [.int .i64 v]), (4, [.bool true]), (27, [.slice a0 x0.Facts.length c0])]) (by decide) (by kernel_rfl) rfl (Go.Proofs.enters_of Tryz.func209 (by kernel_rfl) rfl) (by kernel_rfl) (by kernel_rfl)
    (fun Bn w1 hb1 hB0 hbox => back_Fact hv hlen 8 Bn w1 hb1 hB0 hbox) ?hA ?hB ?hdone ?hstop
  case hA =>
    intro l x W2 γ Q hγ hQ
    refine JCI_region ?_
    refine JOI_stepsK (wl_round l) 2 [11, 5, 6, 7, 8, 9] (by kernel_rfl) (sl' := [(11, .p 7 0), (5, .p 1 0), (6, .p 2 0), (7, .p 3 0), (8, .p 4 0), (9, .p 5 0)]) (bx' := [(29, [.slice a0 x0.Facts.length c0]), (3, [.int .i64 x1]), (3, [.int .i64 x2]), (3, [.int .i64 x3]), (3, [.int .i64 0]), (4, [.bool false]), (27, [.slice a0 x0.Facts.length c0])] ++ [(47, [.int .i64 x.2.Key, .int .i64 x.2.From, .int .i64 x.2.To, .int .i64 x.2.Known, .int .i64 x.2.Value])]) (by kernel_rfl) ?_
    refine JOI_end (by kernel_rfl) ?_
    intro δ a w hl hs
    have hδ : δ.length = 1 := by have := hs.len; simp only [List.length_append, hγ] at this; simp at this; omega
    obtain ⟨gx, rfl⟩ := List.length_eq_one_iff.1 hδ
    exact hQ gx a w hl hs
  case hB =>
    intro l x W2 γ hγ
    refine JCI_block ?_
    refine JCI_seq ?_
    refine JCI_region ?_
    have fin : ∀ b : Bool, (b = false → hitFact x1 x2 x3 x = none) → (b = true → hitFact x1 x2 x3 x = some x.Value) → JEI (fun b => b ∈ γ) W2 [] 41 γ .normal [(38, .v (.bool b)), (11, .p 7 0), (5, .p 1 0), (6, .p 2 0), (7, .p 3 0), (8, .p 4 0), (9, .p 5 0)] ([(29, [.slice a0 x0.Facts.length c0]), (3, [.int .i64 x1]), (3, [.int .i64 x2]), (3, [.int .i64 x3]), (3, [.int .i64 0]), (4, [.bool false]), (27, [.slice a0 x0.Facts.length c0])] ++ [(47, [.int .i64 x.Key, .int .i64 x.From, .int .i64 x.To, .int .i64 x.Known, .int .i64 x.Value])]) []
        (Exit.then (fun a w => (Code.cond (.tmp 38) (Code.seq (Code.region 4 #[(Oper.mk (some 39) (Op.fieldAddr 47 (Operand.tmp 11) 4) 0 "l05_facts.go:49" #[] none), (Oper.mk (some 40) (Op.load 3 (Operand.tmp 39)) 3 "l05_facts.go:49" #[(Edge.mk 0 Ground.data)] none), (Oper.mk none (Op.store 3 (Operand.tmp 8) (Operand.tmp 40)) 0 "l05_facts.go:49" #[(Edge.mk 1 Ground.data), (Edge.mk 0 Ground.phase), (Edge.mk 1 Ground.phase)] none), (Oper.mk none (Op.store 4 (Operand.tmp 9) (Operand.const (Value.bool true))) 0 "l05_facts.go:49" #[(Edge.mk 2 Ground.chain), (Edge.mk 0 Ground.phase), (Edge.mk 1 Ground.phase), (Edge.mk 2 Ground.phase)] none)] false) .ret) .skip).wpIn (Fence.wide.inRound l) 7 Tryz.prog (Exit.inBlock 1 (QB (hitFact x1 x2 x3) (fun v => [(29, [.slice a0 x0.Facts.length c0]), (3, [.int .i64 x1]), (3, [.int .i64 x2]), (3, [.int .i64 x3]), (3, [.int .i64 v]), (4, [.bool true]), (27, [.slice a0 x0.Facts.length c0])]) ([(29, [.slice a0 x0.Facts.length c0]), (3, [.int .i64 x1]), (3, [.int .i64 x2]), (3, [.int .i64 x3]), (3, [.int .i64 0]), (4, [.bool false]), (27, [.slice a0 x0.Facts.length c0])]) x W2 γ γ)) a w) (Exit.inBlock 1 (QB (hitFact x1 x2 x3) (fun v => [(29, [.slice a0 x0.Facts.length c0]), (3, [.int .i64 x1]), (3, [.int .i64 x2]), (3, [.int .i64 x3]), (3, [.int .i64 v]), (4, [.bool true]), (27, [.slice a0 x0.Facts.length c0])]) ([(29, [.slice a0 x0.Facts.length c0]), (3, [.int .i64 x1]), (3, [.int .i64 x2]), (3, [.int .i64 x3]), (3, [.int .i64 0]), (4, [.bool false]), (27, [.slice a0 x0.Facts.length c0])]) x W2 γ γ))) := by
      intro b hbf hbt
      refine JEI_then ?_
      refine JCI_cond b rfl (fun e => ?_) (fun e => ?_)
      · subst e
        refine JCI_seq ?_
        refine JCI_region ?_
        refine JOI_stepsK (wl_round l) 4 [8, 9] (by kernel_rfl) (sl' := [(8, .p 4 0), (9, .p 5 0)]) (bx' := [(29, [.slice a0 x0.Facts.length c0]), (3, [.int .i64 x1]), (3, [.int .i64 x2]), (3, [.int .i64 x3]), (3, [.int .i64 x.Value]), (4, [.bool true]), (27, [.slice a0 x0.Facts.length c0]), (47, [.int .i64 x.Key, .int .i64 x.From, .int .i64 x.To, .int .i64 x.Known, .int .i64 x.Value])]) (by kernel_rfl) ?_
        refine JOI_end (by kernel_rfl) ?_
        refine JEI_then ?_
        refine JCI_ret ?_
        refine JEI_block_ret ?_
        exact fun δ a w hl hs => ⟨x.Value, hbt rfl, δ, _, rfl, hs⟩
      · subst e
        refine JCI_skip ?_
        refine JEI_block_normal ?_
        exact fun δ a w hl hs => ⟨hbf rfl, δ, _, rfl, hs⟩
    refine JOI_stepsK (wl_round l) 4 [20, 11, 5, 6, 7, 8, 9] (by kernel_rfl) (sl' := [(20, .v (.bool (x.Key == x1))), (11, .p 7 0), (5, .p 1 0), (6, .p 2 0), (7, .p 3 0), (8, .p 4 0), (9, .p 5 0)]) (bx' := [(29, [.slice a0 x0.Facts.length c0]), (3, [.int .i64 x1]), (3, [.int .i64 x2]), (3, [.int .i64 x3]), (3, [.int .i64 0]), (4, [.bool false]), (27, [.slice a0 x0.Facts.length c0])] ++ [(47, [.int .i64 x.Key, .int .i64 x.From, .int .i64 x.To, .int .i64 x.Known, .int .i64 x.Value])]) (by kernel_rfl) ?_
    refine JOI_stepsK (wl_round l) 1 [21, 11, 5, 6, 7, 8, 9] (by kernel_rfl) (sl' := [(21, .v (.bool (x.Key == x1))), (11, .p 7 0), (5, .p 1 0), (6, .p 2 0), (7, .p 3 0), (8, .p 4 0), (9, .p 5 0)]) (bx' := [(29, [.slice a0 x0.Facts.length c0]), (3, [.int .i64 x1]), (3, [.int .i64 x2]), (3, [.int .i64 x3]), (3, [.int .i64 0]), (4, [.bool false]), (27, [.slice a0 x0.Facts.length c0])] ++ [(47, [.int .i64 x.Key, .int .i64 x.From, .int .i64 x.To, .int .i64 x.Known, .int .i64 x.Value])]) (by kernel_rfl) ?_
    refine JOI_split 21 (x.Key == x1) (by kernel_rfl) (fun b1 => ?_) (fun b1 => ?_)
    · refine JOI_stepsK (wl_round l) 6 [27, 11, 5, 6, 7, 8, 9] (by kernel_rfl) (sl' := [(27, .v (.bool (decide (x.From ≤ x2)))), (11, .p 7 0), (5, .p 1 0), (6, .p 2 0), (7, .p 3 0), (8, .p 4 0), (9, .p 5 0)]) (bx' := [(29, [.slice a0 x0.Facts.length c0]), (3, [.int .i64 x1]), (3, [.int .i64 x2]), (3, [.int .i64 x3]), (3, [.int .i64 0]), (4, [.bool false]), (27, [.slice a0 x0.Facts.length c0])] ++ [(47, [.int .i64 x.Key, .int .i64 x.From, .int .i64 x.To, .int .i64 x.Known, .int .i64 x.Value])]) (by kernel_rfl) ?_
      refine JOI_split 27 (decide (x.From ≤ x2)) (by kernel_rfl) (fun b2 => ?_) (fun b2 => ?_)
      · refine JOI_stepsK (wl_round l) 6 [33, 11, 5, 6, 7, 8, 9] (by kernel_rfl) (sl' := [(33, .v (.bool (decide (x2 < x.To)))), (11, .p 7 0), (5, .p 1 0), (6, .p 2 0), (7, .p 3 0), (8, .p 4 0), (9, .p 5 0)]) (bx' := [(29, [.slice a0 x0.Facts.length c0]), (3, [.int .i64 x1]), (3, [.int .i64 x2]), (3, [.int .i64 x3]), (3, [.int .i64 0]), (4, [.bool false]), (27, [.slice a0 x0.Facts.length c0])] ++ [(47, [.int .i64 x.Key, .int .i64 x.From, .int .i64 x.To, .int .i64 x.Known, .int .i64 x.Value])]) (by kernel_rfl) ?_
        refine JOI_split 33 (decide (x2 < x.To)) (by kernel_rfl) (fun b3 => ?_) (fun b3 => ?_)
        · refine JOI_stepsK (wl_round l) 5 [38, 11, 5, 6, 7, 8, 9] (by kernel_rfl) (sl' := [(38, .v (.bool (decide (x.Known ≤ x3)))), (11, .p 7 0), (5, .p 1 0), (6, .p 2 0), (7, .p 3 0), (8, .p 4 0), (9, .p 5 0)]) (bx' := [(29, [.slice a0 x0.Facts.length c0]), (3, [.int .i64 x1]), (3, [.int .i64 x2]), (3, [.int .i64 x3]), (3, [.int .i64 0]), (4, [.bool false]), (27, [.slice a0 x0.Facts.length c0])] ++ [(47, [.int .i64 x.Key, .int .i64 x.From, .int .i64 x.To, .int .i64 x.Known, .int .i64 x.Value])]) (by kernel_rfl) ?_
          refine JOI_end (by kernel_rfl) ?_
          exact fin _ (fun e => by simp [hitFact, b1, b2, b3, e]) (fun e => by simp [hitFact, b1, b2, b3, e])
        · refine JOI_stepsK (wl_round l) 5 [38, 11, 5, 6, 7, 8, 9] (by kernel_rfl) (sl' := [(38, .v (.bool false)), (11, .p 7 0), (5, .p 1 0), (6, .p 2 0), (7, .p 3 0), (8, .p 4 0), (9, .p 5 0)]) (bx' := [(29, [.slice a0 x0.Facts.length c0]), (3, [.int .i64 x1]), (3, [.int .i64 x2]), (3, [.int .i64 x3]), (3, [.int .i64 0]), (4, [.bool false]), (27, [.slice a0 x0.Facts.length c0])] ++ [(47, [.int .i64 x.Key, .int .i64 x.From, .int .i64 x.To, .int .i64 x.Known, .int .i64 x.Value])]) (by kernel_rfl) ?_
          refine JOI_end (by kernel_rfl) ?_
          exact fin _ (fun e => by simp [hitFact, b1, b2, b3]) (fun e => by cases e)
      · refine JOI_stepsK (wl_round l) 11 [38, 11, 5, 6, 7, 8, 9] (by kernel_rfl) (sl' := [(38, .v (.bool false)), (11, .p 7 0), (5, .p 1 0), (6, .p 2 0), (7, .p 3 0), (8, .p 4 0), (9, .p 5 0)]) (bx' := [(29, [.slice a0 x0.Facts.length c0]), (3, [.int .i64 x1]), (3, [.int .i64 x2]), (3, [.int .i64 x3]), (3, [.int .i64 0]), (4, [.bool false]), (27, [.slice a0 x0.Facts.length c0])] ++ [(47, [.int .i64 x.Key, .int .i64 x.From, .int .i64 x.To, .int .i64 x.Known, .int .i64 x.Value])]) (by kernel_rfl) ?_
        refine JOI_end (by kernel_rfl) ?_
        exact fin _ (fun e => by simp [hitFact, b1, b2]) (fun e => by cases e)
    · refine JOI_stepsK (wl_round l) 17 [38, 11, 5, 6, 7, 8, 9] (by kernel_rfl) (sl' := [(38, .v (.bool false)), (11, .p 7 0), (5, .p 1 0), (6, .p 2 0), (7, .p 3 0), (8, .p 4 0), (9, .p 5 0)]) (bx' := [(29, [.slice a0 x0.Facts.length c0]), (3, [.int .i64 x1]), (3, [.int .i64 x2]), (3, [.int .i64 x3]), (3, [.int .i64 0]), (4, [.bool false]), (27, [.slice a0 x0.Facts.length c0])] ++ [(47, [.int .i64 x.Key, .int .i64 x.From, .int .i64 x.To, .int .i64 x.Known, .int .i64 x.Value])]) (by kernel_rfl) ?_
      refine JOI_end (by kernel_rfl) ?_
      exact fin _ (fun e => by simp [hitFact, b1]) (fun e => by cases e)
  case hdone =>
    intro hn D W2 γ hD hK hs0
    rw [hn] at h
    subst h
    refine JEI_block_normal ?_
    refine JEI_then ?_
    refine JCI_seq ?_
    refine JCI_region ?_
    refine JOI_stepsK wl_wide 2 [8, 9] (by kernel_rfl) (sl' := [(8, .p 4 0), (9, .p 5 0)]) (bx' := [(29, [.slice a0 x0.Facts.length c0]), (3, [.int .i64 x1]), (3, [.int .i64 x2]), (3, [.int .i64 x3]), (3, [.int .i64 0]), (4, [.bool false]), (27, [.slice a0 x0.Facts.length c0])]) (by kernel_rfl) ?_
    refine JOI_end (by kernel_rfl) ?_
    refine JEI_then ?_
    refine JCI_ret ?_
    exact JEI_retM (vs := [.int .i64 0, .bool false]) (by kernel_rfl) hD hK hs0 (fun w' hb => ⟨rfl, hb⟩)
  case hstop =>
    intro v hn D W2 γ hD hK hs0
    rw [hn] at h
    subst h
    refine JEI_block_ret ?_
    refine JEI_then_ret ?_
    exact JEI_retM (vs := [.int .i64 v, .bool true]) (by kernel_rfl) hD hK hs0 (fun w' hb => ⟨rfl, hb⟩)


theorem c_impl_FinalPay {W : World} {x0 : Store} {a0_0 : Option Addr} {c0_0 : Nat} {x1 : Int} {x2 : Int} {r : Int × Bool} (h : impl_FinalPay x0 x1 x2 = some r) (hv0_0 : SlView W x0.Facts a0_0 c0_0) :
    Gives0 Tryz.prog 128 #[vStore x0 (a0_0, c0_0), .int .i64 x1, .int .i64 x2] W (.tuple #[.int .i64 r.1, .bool r.2]) := by
 unfold impl_FinalPay at h
 refine en Tryz.func128 Tryz.ntmps128 ?_
 refine qs (qr (oB 3 [(3, .p 0 0)] [1, 2] [(29, (eStore x0 (a0_0, c0_0)))] ?_))
 refine oe (nt (qs (qs ?_)))
 obtain ⟨p21, hE22, h23⟩ := bS h
 refine JC_cut (τ := Unit) (fun _ => [(1, vi x1), (2, vi x2), (3, .p 0 0), (18, vb p21)]) (fun _ => [(29, (eStore x0 (a0_0, c0_0)))]) (fun _ => []) ?_ (fun _ => ?_)
 · refine qr (oN 1 [(11, .v (vStore x0 (a0_0, c0_0)))] [3, 1, 2] ?_)
   obtain ⟨t24, h25, h26⟩ := bS hE22
   refine k0 (fun γ w hs => c_impl_StoreOk h25 (hv0_0.kept hs.kept)) ?_
   refine oN 2 [(14, vb (!t24))] [3, 1, 2] ?_
   refine oS 14 h26 (fun h29 => ?_) (fun h30 => ?_)
   · refine oN 4 [(18, vb true)] [3, 1, 2] ?_
     refine oe ?_
     obtain rfl := sI h29
     exact mt () [1, 2, 3, 18] [] 1
   refine oN 1 [(15, vi x1)] [14, 3, 1, 2] ?_
   obtain ⟨t31, h32, h33⟩ := bS h30
   refine k0 (fun γ w hs => c_impl_isEnd h32) ?_
   refine oN 2 [(18, vb (!t31))] [3, 1, 2] ?_
   refine oe ?_
   obtain rfl := sI h33
   exact mt () [1, 2, 3, 18] [] 1
 refine nt (cC h23 (fun h36 => ?_) (fun h37 => ?_))
 · refine qs (qr (oN 2 [(7, vb false), (6, vi 0)] [] ?_))
   refine oe (nt (qe (nr ?_)))
   obtain rfl := sI h36
   exact re [.int .i64 0, .bool false]
 refine qk (nt (qs (qs (qr (oN 3 [(8, vi (w64 (x1 - 1)))] [2, 3] ?_)))))
 refine oe (nt ?_)
 obtain ⟨r41, hL42, h43⟩ := bS h37
 obtain ⟨k44, hk45, h43⟩ := brkS h43
 refine JC_cutP (τ := (Unit) × (Unit)) (fun y => k44 y.1 = some r) (fun y49 => []) (fun y49 => [(29, (eStore x0 (a0_0, c0_0)))]) (fun y49 => []) ?_ (fun y49 h50p => ?_)
 · refine qb (lp Unit hL42 (fun s38 y39 => [(8, vi s38), (2, vi x2), (3, .p 0 0)]) (fun s38 y39 => [(29, (eStore x0 (a0_0, c0_0)))]) (fun s38 y39 => []) () [8, 2, 3] [] 1 (fun s38 y39 t40 h46 hd47 => ?_))
   refine qs (qs (qr (oN 2 [(22, vb (decide (s38 ≥ 0)))] [8, 2, 3] ?_)))
   refine oe (nt (cC h46 (fun h52 => ?_) (fun h53 => ?_)))
   · refine qk (nt (qs (qb (qs (qr (oN 3 [(28, vi x2), (27, vi s38), (26, .v (vStore x0 (a0_0, c0_0)))] [8, 2, 3] ?_))))))
     obtain ⟨t54, h55, h56⟩ := bS h52
     refine k0 (fun γ w hs => c_impl_ValueAt h55 (hv0_0.kept hs.kept)) ?_
     refine oN 5 [(10, vb t54.2), (9, vi t54.1)] [8, 2, 3] ?_
     refine oe (nt (qs (qr (oN 1 [(32, vb t54.2)] [9, 8, 2, 3] ?_))))
     refine oe (nt (cC h56 (fun h59 => ?_) (fun h60 => ?_)))
     · refine qs (qr (oN 3 [(7, vb true), (6, vi t54.1)] [] ?_))
       refine oe (nt (qe (br (nr (nr ?_)))))
       have h61 := leafR hd47 h59 h43
       refine br (nr (nr ?_))
       obtain rfl := sI h61
       exact re [.int .i64 t54.1, .bool true]
     refine qk (bn (nt (qr (oN 3 [(8, vi (w64 (s38 - 1)))] [2, 3] ?_))))
     exact oe (ct h60 () [8, 2, 3] [] 1)
   refine qx (nx (nx (bh ?_)))
   have h62 := leafB hd47 h53 h43
   exact mp ((), ()) h62 [] [] 1
 have h50 := (congrFun hk45 _).symm.trans h50p
 refine nt (qs (qr (oN 2 [(7, vb false), (6, vi 0)] [] ?_)))
 refine oe (nt (qe ?_))
 obtain rfl := sI h50
 exact re [.int .i64 0, .bool false]

theorem c_impl_IndexAt {W : World} {x0 : Series} {a0_0 : Option Addr} {c0_0 : Nat} {x1 : Int} {x2 : Int} {r : Int × Bool} (h : impl_IndexAt x0 x1 x2 = some r) (hv0_0 : SlView W x0.Points a0_0 c0_0) :
    Gives0 Tryz.prog 181 #[vSeries x0 (a0_0, c0_0), .int .i64 x1, .int .i64 x2] W (.tuple #[.int .i64 r.1, .bool r.2]) := by
 unfold impl_IndexAt at h
 refine en Tryz.func181 Tryz.ntmps181 ?_
 refine qs (qr (oB 3 [(3, .p 0 0)] [1, 2] [(32, (eSeries x0 (a0_0, c0_0)))] ?_))
 refine oe (nt (qs (qr (oB 3 [(8, .p 1 0)] [3, 1, 2] [(32, (eSeries x0 (a0_0, c0_0))), (52, (ePoint (Point.mk 0 0 0)))] ?_))))
 refine oe (nt (qs (qr (oN 1 [(9, vb false)] [8, 3, 1, 2] ?_))))
 refine oe (nt (qs (qs (qr (oN 4 [(16, vi 0), (15, vi (x0.Points.length : Int)), (14, .v (.slice a0_0 x0.Points.length c0_0))] [9, 8, 1, 2] ?_)))))
 refine oe (nt ?_)
 obtain ⟨r24, hL25, h26⟩ := bS h
 obtain ⟨k27, hk28, h26⟩ := brkS h26
 refine JC_cutP (τ := (Bool × Int × Int × Int) × (Unit)) (fun y => k27 y.1 = some r) (fun y32 => [(9, vb y32.1.1), (8, .p 1 0)]) (fun y32 => [(32, (eSeries x0 (a0_0, c0_0))), (52, (ePoint (Point.mk y32.1.2.1 y32.1.2.2.1 y32.1.2.2.2)))]) (fun y32 => []) ?_ (fun y32 h33p => ?_)
 · refine qb (lp Unit hL25 (fun s21 y22 => [(16, vi s21.1), (15, vi (x0.Points.length : Int)), (14, .v (.slice a0_0 x0.Points.length c0_0)), (9, vb s21.2.1), (8, .p 1 0), (1, vi x1), (2, vi x2)]) (fun s21 y22 => [(32, (eSeries x0 (a0_0, c0_0))), (52, (ePoint (Point.mk s21.2.2.1 s21.2.2.2.1 s21.2.2.2.2)))]) (fun s21 y22 => []) () [16, 15, 14, 9, 8, 1, 2] [] 2 (fun s21 y22 t23 h29 hd30 => ?_))
   refine qs (qr (oN 1 [(17, vb (decide (s21.1 < (x0.Points.length : Int))))] [16, 15, 14, 9, 8, 1, 2] ?_))
   refine oe (nt (qs (cC h29 (fun h35 => ?_) (fun h36 => ?_))))
   · refine qk (nt (qs (qb (qs (qr ?_)))))
     obtain ⟨x37, hx38, h39⟩ := bS h35
     refine oi 3 (fun γ w hs => (hv0_0.kept hs.kept)) hx38 ?_
     refine ol 52 0 (vPoint x37) (fun γ w hs => (hv0_0.kept hs.kept).flatq hx38) ?_
     refine oB 2 [(11, .p 2 0)] [16, 15, 14, 9, 8, 1, 2] [(32, (eSeries x0 (a0_0, c0_0))), (52, (ePoint (Point.mk s21.2.2.1 s21.2.2.2.1 s21.2.2.2.2))), (52, (ePoint x37))] ?_
     refine oe (nt (qs ?_))
     obtain ⟨p40, hE41, h42⟩ := bS h39
     refine JC_cut (τ := Unit) (fun _ => [(1, vi x1), (2, vi x2), (8, .p 1 0), (9, vb s21.2.1), (11, .p 2 0), (14, .v (.slice a0_0 x0.Points.length c0_0)), (15, vi (x0.Points.length : Int)), (16, vi s21.1), (40, vb p40)]) (fun _ => [(32, (eSeries x0 (a0_0, c0_0))), (52, (ePoint (Point.mk s21.2.2.1 s21.2.2.2.1 s21.2.2.2.2))), (52, (ePoint x37))]) (fun _ => []) ?_ (fun _ => ?_)
     · refine qr (oN 5 [(24, vb (decide (x37.Month ≤ x1)))] [11, 16, 15, 14, 9, 8, 1, 2] ?_)
       refine oS 24 hE41 (fun h44 => ?_) (fun h45 => ?_)
       · refine oN 6 [(30, vb (decide (x37.Known ≤ x2)))] [11, 16, 15, 14, 9, 8, 1, 2] ?_
         refine oS 30 h44 (fun h47 => ?_) (fun h48 => ?_)
         · refine oN 3 [(33, vb (!s21.2.1))] [30, 11, 16, 15, 14, 9, 8, 1, 2] ?_
           refine oS 33 h47 (fun h50 => ?_) (fun h51 => ?_)
           · refine oN 7 [(40, vb true)] [11, 16, 15, 14, 9, 8, 1, 2] ?_
             refine oe ?_
             obtain rfl := sI h50
             exact mt () [1, 2, 8, 9, 11, 14, 15, 16, 40] [] 3
           refine oN 7 [(40, vb (decide (x37.Month ≥ s21.2.2.1)))] [11, 16, 15, 14, 9, 8, 1, 2] ?_
           refine oe ?_
           obtain rfl := sI h51
           exact mt () [1, 2, 8, 9, 11, 14, 15, 16, 40] [] 3
         refine oN 10 [(40, vb false)] [11, 16, 15, 14, 9, 8, 1, 2] ?_
         refine oe ?_
         obtain rfl := sI h48
         exact mt () [1, 2, 8, 9, 11, 14, 15, 16, 40] [] 3
       refine oN 16 [(40, vb false)] [11, 16, 15, 14, 9, 8, 1, 2] ?_
       refine oe ?_
       obtain rfl := sI h45
       exact mt () [1, 2, 8, 9, 11, 14, 15, 16, 40] [] 3
     refine nt ?_
     obtain ⟨k55, hk56, h58⟩ := jS h42
     refine JC_cutP (τ := (Bool × Int × Int × Int) × (Unit)) (fun y => k55 y.1 = some t23) (fun y54 => [(1, vi x1), (2, vi x2), (8, .p 1 0), (9, vb y54.1.1), (14, .v (.slice a0_0 x0.Points.length c0_0)), (15, vi (x0.Points.length : Int)), (16, vi s21.1)]) (fun y54 => [(32, (eSeries x0 (a0_0, c0_0))), (52, (ePoint (Point.mk y54.1.2.1 y54.1.2.2.1 y54.1.2.2.2))), (52, (ePoint x37))]) (fun y54 => []) ?_ (fun y54 h57p => ?_)
     · refine cC h58 (fun h60 => ?_) (fun h61 => ?_)
       · refine qr (oB 3 [(9, vb true)] [1, 2, 8, 14, 15, 16] [(32, (eSeries x0 (a0_0, c0_0))), (52, (ePoint x37)), (52, (ePoint x37))] ?_)
         exact oe (mp ((true, x37.Month, x37.Known, x37.Value), ()) h60 [1, 2, 8, 9, 14, 15, 16] [] 3)
       exact qk (mp ((s21.2.1, s21.2.2.1, s21.2.2.2.1, s21.2.2.2.2), ()) h61 [1, 2, 8, 9, 14, 15, 16] [] 3)
     have h57 := (congrFun hk56 _).symm.trans h57p
     refine bn (nt (qr (oN 2 [(16, vi (w64 (s21.1 + 1)))] [1, 2, 8, 9, 14, 15] ?_)))
     exact oe (ct h57 () [16, 15, 14, 9, 8, 1, 2] [] 2)
   refine qx (nx (nx (bh ?_)))
   have h62 := leafB hd30 h36 h26
   exact mp ((s21.2.1, s21.2.2.1, s21.2.2.2.1, s21.2.2.2.2), ()) h62 [9, 8] [] 2
 have h33 := (congrFun hk28 _).symm.trans h33p
 refine nt (qs (qr (oN 5 [(7, vb y32.1.1), (6, vi y32.1.2.2.2)] [] ?_)))
 refine oe (nt (qe ?_))
 obtain rfl := sI h33
 exact re [.int .i64 y32.1.2.2.2, .bool y32.1.1]
end Go.Pen
