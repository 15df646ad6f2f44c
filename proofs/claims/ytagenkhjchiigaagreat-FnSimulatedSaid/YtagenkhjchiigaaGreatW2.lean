/-
  Each Go function does what its plain function says: written by a program of ours.
-/
import Derived.Test.YtagenkhjchiigaaGreatW1
import Derived.Test.YtagenkhjchiigaaGreatProg
import Derived.Test.YtagenkhjchiigaaGreatPenK
import Derived.Test.YtagenkhjchiigaaGreatPenJ
import Derived.Test.YtagenkhjchiigaaGreatPenP
import Derived.Test.YtagenkhjchiigaaGreatPenQ
import Derived.Test.YtagenkhjchiigaaGreatPenU
namespace Go.Pen
open Go.Proofs Go.RowKit
set_option linter.unusedVariables false
set_option linter.unusedSimpArgs false
set_option maxRecDepth 100000
set_option maxHeartbeats 4000000

theorem c_spec_l35Rule {W : World} {xb0 : List U8} {xi0 xh0 : Int} {p0 ca0 : Option Addr} {cc0 : Nat} {r : Rule × Int × Int} (h : spec_l35Rule xb0 xi0 xh0 = some r) (hv0_0 : SlView W xb0 ca0 cc0) :
    GivesC Tryz.prog 138 70 #[(SV.q p0 0).den []] W (CurD.mk xb0 xi0 xh0) p0 ca0 cc0 (CurD.mk xb0 r.2.1 r.2.2) (fun y : AC => vRule r.1 y) (fun y => [SlRes 154 r.1.Nodes y.1 y.2]) := by
 unfold spec_l35Rule at h
 refine enterC [.q p0 0] (args := [(SV.q p0 0).den []]) hv0_0 (by kernel_rfl) (by kernel_rfl) Tryz.func70 rfl Tryz.ntmps70 (by kernel_rfl) (fun g hg hs0 => ?_)
 refine qs (qr (oB 1 [(2, .p 0 0)] [0] [(76, (eRule (Rule.mk 0 0 0 0 0 0 ([] : List Node)) (none, 0)))] ?_))
 refine oe (nt (qs (qr (oN 1 [(4, .q p0 0)] [2, 0] ?_))))
 obtain ⟨t21, h22, h23⟩ := bS h
 refine JO_callC rfl (by kernel_rfl) (f := 116) (args := fun γ => #[(SV.q p0 0).den []]) (fun γ => by kernel_rfl) (x0 := CurD.mk xb0 xi0 xh0) (x1 := CurD.mk xb0 t21.2.1 t21.2.2) (Rr := []) rfl hs0 (fun γ w hs => (by have vv := c_spec_l22Rule (p0 := p0) (W := w) h22 (hs0.kept hs.kept); exact vv)) (fun (y24 : AC) => [(5, .v (vRule t21.1 y24)), (4, .q p0 0), (2, .p 0 0), (0, .q p0 0)]) (fun y24 => by kernel_rfl) (fun y24 => ?_)
 refine oB 2 [(3, .p 1 0)] [2, 0] [(76, (eRule (Rule.mk 0 0 0 0 0 0 ([] : List Node)) (none, 0))), (76, (eRule t21.1 y24))] ?_
 refine oe (nt (qs (qr (oN 1 [(6, .q p0 0)] [3, 2, 0] ?_))))
 refine or_ [1, 0] ?_
 obtain ⟨t25, h26, h27⟩ := bS h23
 refine JO_callC rfl (by kernel_rfl) (f := 50) (args := fun γ => #[(SV.q p0 0).den [], .int .i64 3]) (fun γ => by kernel_rfl) (x0 := CurD.mk xb0 t21.2.1 t21.2.2) (x1 := CurD.mk xb0 t25.2.1 t25.2.2) (Rr := [SlRes 154 t21.1.Nodes y24.1 y24.2]) rfl hs0 (fun γ w hs => (by have vv := c_spec_l01Below (p0 := p0) (W := w) h26 (hs0.kept hs.kept); exact vv)) (fun (y28 : Unit) => [(7, vi t25.1), (6, .q p0 0), (3, .p 1 0), (2, .p 0 0), (0, .q p0 0)]) (fun y28 => by kernel_rfl) (fun y28 => ?_)
 refine oB 3 [] [3, 2, 0] [(76, (eRule (Rule.mk 0 0 0 0 0 0 ([] : List Node)) (none, 0))), (76, (eRule (Rule.mk t21.1.Name t21.1.From t21.1.To t21.1.Joined (w64 (4 + t25.1)) t21.1.Mode t21.1.Nodes) y24))] ?_
 refine oe (nt (qs (qs (qr (oN 1 [(10, .q p0 0)] [3, 2, 0] ?_)))))
 obtain ⟨t29, h30, h31⟩ := bS h27
 refine JO_callC rfl (by kernel_rfl) (f := 117) (args := fun γ => #[(SV.q p0 0).den [], .int .i64 8]) (fun γ => by kernel_rfl) (x0 := CurD.mk xb0 t25.2.1 t25.2.2) (x1 := CurD.mk xb0 t29.2.1 t29.2.2) (Rr := [SlRes 154 t21.1.Nodes y24.1 y24.2]) rfl hs0 (fun γ w hs => (by have vv := c_spec_l01Once (p0 := p0) (W := w) h30 (hs0.kept hs.kept); exact vv)) (fun (y32 : Unit) => [(11, vb t29.1), (10, .q p0 0), (3, .p 1 0), (2, .p 0 0), (0, .q p0 0)]) (fun y32 => by kernel_rfl) (fun y32 => ?_)
 refine oe (nt ?_)
 obtain ⟨k40, hk41, h43⟩ := jS h31
 refine JC_cutP (τ := (Int × Int × Int) × (Unit)) (fun y => k40 y.1 = some r) (fun y39 => [(3, .p 1 0), (2, .p 0 0), (0, .q p0 0)]) (fun y39 => [(76, (eRule (Rule.mk 0 0 0 0 0 0 ([] : List Node)) (none, 0))), (76, (eRule (Rule.mk y39.1.2.2 t21.1.From t21.1.To t21.1.Joined (w64 (4 + t25.1)) t21.1.Mode t21.1.Nodes) y24))]) (fun y39 => [SlRes 154 t21.1.Nodes y24.1 y24.2, CurRes 138 (CurD.mk xb0 y39.1.1 y39.1.2.1) p0 ca0 cc0]) ?_ (fun y39 h42p => ?_)
 · refine cC h43 (fun h45 => ?_) (fun h46 => ?_)
   · refine qr (oN 1 [(12, .q p0 0)] [3, 2, 0] ?_)
     obtain ⟨t47, h48, h49⟩ := bS h45
     refine JO_callC rfl (by kernel_rfl) (f := 50) (args := fun γ => #[(SV.q p0 0).den [], .int .i64 4]) (fun γ => by kernel_rfl) (x0 := CurD.mk xb0 t29.2.1 t29.2.2) (x1 := CurD.mk xb0 t47.2.1 t47.2.2) (Rr := [SlRes 154 t21.1.Nodes y24.1 y24.2]) rfl hs0 (fun γ w hs => (by have vv := c_spec_l01Below (p0 := p0) (W := w) h48 (hs0.kept hs.kept); exact vv)) (fun (y50 : Unit) => [(13, vi t47.1), (12, .q p0 0), (3, .p 1 0), (2, .p 0 0), (0, .q p0 0)]) (fun y50 => by kernel_rfl) (fun y50 => ?_)
     refine oB 2 [] [3, 2, 0] [(76, (eRule (Rule.mk 0 0 0 0 0 0 ([] : List Node)) (none, 0))), (76, (eRule (Rule.mk t47.1 t21.1.From t21.1.To t21.1.Joined (w64 (4 + t25.1)) t21.1.Mode t21.1.Nodes) y24))] ?_
     exact oe (mp ((t47.2.1, t47.2.2, t47.1), ()) h49 [3, 2, 0] [1, 0] 2)
   exact qk (mp ((t29.2.1, t29.2.2, t21.1.Name), ()) h46 [3, 2, 0] [1, 0] 2)
 have h42 := (congrFun hk41 _).symm.trans h42p
 refine nt (qs (qr (oB 2 [] [2, 0] [(76, (eRule (Rule.mk y39.1.2.2 t21.1.From t21.1.To t21.1.Joined (w64 (4 + t25.1)) t21.1.Mode t21.1.Nodes) y24)), (76, (eRule (Rule.mk y39.1.2.2 t21.1.From t21.1.To t21.1.Joined (w64 (4 + t25.1)) t21.1.Mode t21.1.Nodes) y24))] ?_)))
 refine oe (nt (qe (rt [vRule (Rule.mk y39.1.2.2 t21.1.From t21.1.To t21.1.Joined (w64 (4 + t25.1)) t21.1.Mode t21.1.Nodes) y24] (fun γ w hs => ?_))))
 rw [← sI h42]
 exact hs.curPost hg y24 (is := [1, 0]) rfl

theorem c_spec_DrawProposal {W : World} {x0 : List U8} {a0_0 : Option Addr} {c0_0 : Nat} {r : Case × Rule} (h : spec_DrawProposal x0 = some r) (hv0_0 : SlView W x0 a0_0 c0_0) :
    Gives Tryz.prog 31 #[.slice a0_0 x0.length c0_0] W (fun y : (AC × AC × AC × AC × AC) × AC => .tuple #[vCase r.1 y.1, vRule r.2 y.2]) (fun y => [SlRes 76 r.1.Book.Rules y.1.1.1 y.1.1.2, SlRes 47 r.1.Store.Facts y.1.2.1.1 y.1.2.1.2, SlRes 52 r.1.Series.Points y.1.2.2.1.1 y.1.2.2.1.2, SlRes 156 r.1.Member.Spells y.1.2.2.2.1.1 y.1.2.2.2.1.2, SlRes 158 r.1.Member.Events y.1.2.2.2.2.1 y.1.2.2.2.2.2, SlRes 154 r.2.Nodes y.2.1 y.2.2]) := by
 unfold spec_DrawProposal at h
 refine en Tryz.func31 Tryz.ntmps31 ?_
 refine qs (qr (oB 2 [(3, .p 1 0), (2, .p 0 0)] [0] [(38, [.slice none 0 0, .slice none 0 0, .slice none 0 0, .int .i64 0, .int .i64 0, .slice none 0 0, .slice none 0 0]), (76, (eRule (Rule.mk 0 0 0 0 0 0 ([] : List Node)) (none, 0)))] ?_))
 refine oe (nt (qs (qr (oN 1 [(6, .v (.slice a0_0 x0.length c0_0))] [3, 2] ?_))))
 obtain ⟨t21, h22, h23⟩ := bS h
 refine JO_callN rfl (by kernel_rfl) (f := 49) (args := #[.slice a0_0 x0.length c0_0]) (by kernel_rfl) (fun γ w hs => (by have vv := c_spec_l01New (W := w) h22 (hv0_0.kept hs.kept); exact vv)) (fun y24 => [(7, .q y24.1 0), (6, .v (.slice a0_0 x0.length c0_0)), (3, .p 1 0), (2, .p 0 0)]) (fun y24 => by kernel_rfl) (fun y24 => ?_)
 refine oN 1 [(4, .q y24.1 0)] [3, 2] ?_
 refine oe (nt (qs (qr (oN 1 [(8, .q y24.1 0)] [4, 3, 2] ?_))))
 obtain ⟨t25, h26, h27⟩ := bS h23
 refine JO_callC rfl (by kernel_rfl) (f := 69) (args := fun γ => #[(SV.q y24.1 0).den []]) (fun γ => by kernel_rfl) (x0 := CurD.mk x0 t21.1 t21.2) (x1 := CurD.mk x0 t25.2.1 t25.2.2) (Rr := []) rfl (Seen.of hv0_0) (fun γ w hs => (by have vv := c_spec_l22Case (p0 := y24.1) (W := w) h26 (hv0_0.kept hs.kept); exact vv)) (fun (y28 : AC × AC × AC × AC × AC) => [(9, .v (vCase t25.1 y28)), (8, .q y24.1 0), (4, .q y24.1 0), (3, .p 1 0), (2, .p 0 0)]) (fun y28 => by kernel_rfl) (fun y28 => ?_)
 refine oB 2 [(5, .p 2 0)] [4, 3, 2] [(38, [.slice none 0 0, .slice none 0 0, .slice none 0 0, .int .i64 0, .int .i64 0, .slice none 0 0, .slice none 0 0]), (76, (eRule (Rule.mk 0 0 0 0 0 0 ([] : List Node)) (none, 0))), (38, (eCase t25.1 y28))] ?_
 refine oe (nt (qs ?_))
 obtain ⟨t29, h30, h31⟩ := bS h27
 refine JC_cut (τ := AC) (fun y33 => [(3, .p 1 0), (2, .p 0 0)]) (fun y33 => [(38, (eCase t25.1 y28)), (76, (eRule t29.1 y33)), (38, (eCase t25.1 y28))]) (fun y33 => [SlRes 154 t29.1.Nodes y33.1 y33.2, SlRes 76 t25.1.Book.Rules y28.1.1 y28.1.2, SlRes 47 t25.1.Store.Facts y28.2.1.1 y28.2.1.2, SlRes 52 t25.1.Series.Points y28.2.2.1.1 y28.2.2.1.2, SlRes 156 t25.1.Member.Spells y28.2.2.2.1.1 y28.2.2.2.1.2, SlRes 158 t25.1.Member.Events y28.2.2.2.2.1 y28.2.2.2.2.2, CurRes 138 (CurD.mk x0 t29.2.1 t29.2.2) y24.1 a0_0 c0_0]) ?_ (fun y33 => ?_)
 · refine JC_weak [5, 4, 3, 2] [0, 0, 0, 0, 0, 0] 3 (sl' := [(5, .p 2 0), (4, .q y24.1 0), (3, .p 1 0), (2, .p 0 0)]) (bx' := [(38, [.slice none 0 0, .slice none 0 0, .slice none 0 0, .int .i64 0, .int .i64 0, .slice none 0 0, .slice none 0 0]), (76, (eRule (Rule.mk 0 0 0 0 0 0 ([] : List Node)) (none, 0))), (38, (eCase t25.1 y28))]) (R' := [SlRes 76 t25.1.Book.Rules y28.1.1 y28.1.2, SlRes 47 t25.1.Store.Facts y28.2.1.1 y28.2.1.2, SlRes 52 t25.1.Series.Points y28.2.2.1.1 y28.2.2.1.2, SlRes 156 t25.1.Member.Spells y28.2.2.2.1.1 y28.2.2.2.1.2, SlRes 158 t25.1.Member.Events y28.2.2.2.2.1 y28.2.2.2.2.2, CurRes 138 (CurD.mk x0 t25.2.1 t25.2.2) y24.1 a0_0 c0_0]) (by kernel_rfl) (by kernel_rfl) (by kernel_rfl) (by kernel_rfl) ?_
   refine JC_heldN (ks := [2]) (Rk := [SlRes 76 t25.1.Book.Rules y28.1.1 y28.1.2, SlRes 47 t25.1.Store.Facts y28.2.1.1 y28.2.1.2, SlRes 52 t25.1.Series.Points y28.2.2.1.1 y28.2.2.1.2, SlRes 156 t25.1.Member.Spells y28.2.2.2.1.1 y28.2.2.2.1.2, SlRes 158 t25.1.Member.Events y28.2.2.2.2.1 y28.2.2.2.2.2]) 5 (by kernel_rfl) (by kernel_rfl) ?_
   refine htq 0 (.v (vCase t25.1 y28)) [0, 0, 0, 0, 0] ?_
   refine hk [10, 4, 3, 2] ?_
   refine htq 1 (.q y24.1 0) [0, 0, 0, 0, 0] ?_
   refine hk [11, 10, 3, 2] ?_
   refine ha1 2 ?_
   refine JHi_res (R' := [CurRes 138 (CurD.mk x0 t25.2.1 t25.2.2) y24.1 a0_0 c0_0, SlRes 76 t25.1.Book.Rules y28.1.1 y28.1.2, SlRes 47 t25.1.Store.Facts y28.2.1.1 y28.2.1.2, SlRes 52 t25.1.Series.Points y28.2.2.1.1 y28.2.2.1.2, SlRes 156 t25.1.Member.Spells y28.2.2.2.1.1 y28.2.2.2.1.2, SlRes 158 t25.1.Member.Events y28.2.2.2.2.1 y28.2.2.2.2.2]) [5, 0, 0, 0, 0, 0] (by kernel_rfl) ?_
   refine hi (fun γ0 δ hm => ?_)
   refine JG_callC (by kernel_rfl) (f := 70) (args := #[(SV.q y24.1 0).den []]) (by kernel_rfl) (x0 := CurD.mk x0 t25.2.1 t25.2.2) (x1 := CurD.mk x0 t29.2.1 t29.2.2) (Rr := [SlRes 76 t25.1.Book.Rules y28.1.1 y28.1.2, SlRes 47 t25.1.Store.Facts y28.2.1.1 y28.2.1.2, SlRes 52 t25.1.Series.Points y28.2.2.1.1 y28.2.2.1.2, SlRes 156 t25.1.Member.Spells y28.2.2.2.1.1 y28.2.2.2.1.2, SlRes 158 t25.1.Member.Events y28.2.2.2.2.1 y28.2.2.2.2.2]) rfl (Seen.of hv0_0) (fun w hs => (by have vv := c_spec_l35Rule (p0 := y24.1) (W := w) h30 (hv0_0.kept hs.kept); exact vv)) (fun (y32 : AC) => [(12, .v (vRule t29.1 y32)), (11, .q y24.1 0), (10, .v (vCase t25.1 y28)), (3, .p 1 0), (2, .p 0 0)]) (fun y32 => by kernel_rfl) (fun y32 => ?_)
   refine gn hm [12, 10, 3, 2] [2, 2, 2, 2, 2] ?_
   refine ha1 3 ?_
   refine hi (fun γ0 δ hm => ?_)
   refine gs [(12, .v (vRule t29.1 y32)), (10, .v (vCase t25.1 y28)), (3, .p 1 0), (2, .p 0 0)] [(38, (eCase t25.1 y28)), (76, (eRule (Rule.mk 0 0 0 0 0 0 ([] : List Node)) (none, 0))), (38, (eCase t25.1 y28))] (fun δ2 => ?_)
   refine gd hm [12, 3, 2] [2, 2, 2, 2, 2] ?_
   refine ha1 4 ?_
   refine hi (fun γ0 δ hm => ?_)
   refine gs [(12, .v (vRule t29.1 y32)), (3, .p 1 0), (2, .p 0 0)] [(38, (eCase t25.1 y28)), (76, (eRule t29.1 y32)), (38, (eCase t25.1 y28))] (fun δ2 => ?_)
   refine gd hm [3, 2] [2, 2, 2, 2, 2] ?_
   exact hd y32 [3, 2] [0, 1, 1, 1, 1, 1, 0] 3
 refine nt (qe (rt [vCase t25.1 y28, vRule t29.1 y33] (fun γ w hs => ?_)))
 rw [← sI h31]
 exact ⟨((y28.1, y28.2.1, y28.2.2.1, y28.2.2.2.1, y28.2.2.2.2), y33), rfl, hs.kept.toBelow, (hs.takeR (is := [1, 1, 1, 1, 1, 0]) rfl).fresh⟩

theorem c_spec_DrawPlaces {W : World} {x0 : List U8} {a0_0 : Option Addr} {c0_0 : Nat} {r : (List Int)} (h : spec_DrawPlaces x0 = some r) (hv0_0 : SlView W x0 a0_0 c0_0) :
    Gives Tryz.prog 14 #[.slice a0_0 x0.length c0_0] W (fun y : AC => .slice y.1 r.length y.2) (fun y => [SlRes 3 r y.1 y.2]) := by
 unfold spec_DrawPlaces at h
 refine en Tryz.func14 Tryz.ntmps14 ?_
 refine qs (qr (oN 1 [] [0] ?_))
 refine oe (nt (qs (qr (oN 1 [(6, .v (.slice a0_0 x0.length c0_0))] [] ?_))))
 obtain ⟨t21, h22, h23⟩ := bS h
 refine JO_callN rfl (by kernel_rfl) (f := 49) (args := #[.slice a0_0 x0.length c0_0]) (by kernel_rfl) (fun γ w hs => (by have vv := c_spec_l01New (W := w) h22 (hv0_0.kept hs.kept); exact vv)) (fun y24 => [(7, .q y24.1 0), (6, .v (.slice a0_0 x0.length c0_0))]) (fun y24 => by kernel_rfl) (fun y24 => ?_)
 refine oN 1 [(3, .q y24.1 0)] [] ?_
 refine oe (nt (qs (qr (ob [] [CurRes 138 (CurD.mk x0 t21.1 t21.2) y24.1 a0_0 c0_0] 3 0 [] ([] : List Int) (own_flat (by kernel_rfl)) (fun y25 => ?_)))))
 refine oN 1 [(4, .v (.slice y25.1 ([] : List Int).length y25.2))] [3] ?_
 refine oe (nt (qs (qs (qr (oN 1 [(5, vi 0)] [4, 3] ?_)))))
 refine oe (nt ?_)
 obtain ⟨r30, hL31, h32⟩ := bS h23
 obtain ⟨k33, hk34, h32⟩ := brkS h32
 refine JC_cutP (τ := ((List Int)) × (AC)) (fun y => k33 y.1 = some r) (fun y38 => [(4, .v (.slice y38.2.1 y38.1.length y38.2.2))]) (fun y38 => []) (fun y38 => [SlRes 3 y38.1 y38.2.1 y38.2.2]) ?_ (fun y38 h39p => ?_)
 · refine qb (lp AC hL31 (fun s27 y28 => [(5, vi s27.1), (4, .v (.slice y28.1 s27.2.1.length y28.2)), (3, .q y24.1 0)]) (fun s27 y28 => []) (fun s27 y28 => [SlRes 3 s27.2.1 y28.1 y28.2, CurRes 138 (CurD.mk x0 s27.2.2.1 s27.2.2.2) y24.1 a0_0 c0_0]) (y25.1, y25.2) [5, 4, 3] [0, 0] 0 (fun s27 y28 t29 h35 hd36 => ?_))
   refine qs (qs (qr (oN 2 [(10, vb (decide (s27.1 < 12)))] [5, 4, 3] ?_)))
   refine oe (nt (cC h35 (fun h41 => ?_) (fun h42 => ?_)))
   · refine qk (nt (qs (qb (qr (oN 2 [(14, .q y24.1 0), (13, .v (.slice y28.1 s27.2.1.length y28.2))] [5, 3] ?_)))))
     refine or_ [1, 0] ?_
     obtain ⟨t43, h44, h45⟩ := bS h41
     refine JO_callC rfl (by kernel_rfl) (f := 50) (args := fun γ => #[(SV.q y24.1 0).den [], .int .i64 10000]) (fun γ => by kernel_rfl) (x0 := CurD.mk x0 s27.2.2.1 s27.2.2.2) (x1 := CurD.mk x0 t43.2.1 t43.2.2) (Rr := [SlRes 3 s27.2.1 y28.1 y28.2]) rfl (Seen.of hv0_0) (fun γ w hs => (by have vv := c_spec_l01Below (p0 := y24.1) (W := w) h44 (hv0_0.kept hs.kept); exact vv)) (fun (y46 : Unit) => [(15, vi t43.1), (14, .q y24.1 0), (13, .v (.slice y28.1 s27.2.1.length y28.2)), (5, vi s27.1), (3, .q y24.1 0)]) (fun y46 => by kernel_rfl) (fun y46 => ?_)
     refine ob [] [CurRes 138 (CurD.mk x0 t43.2.1 t43.2.2) y24.1 a0_0 c0_0, SlRes 3 s27.2.1 y28.1 y28.2] 3 1 [.int .i64 t43.1] ([t43.1] : List Int) (own_flat (by kernel_rfl)) (fun y47 => ?_)
     refine or_ [2, 0, 0] ?_
     obtain ⟨l50, hm51, h52⟩ := bS h45
     refine oa 39 y47.2 Tryz.t3 (.int .i64 0) (fun γ w hs => ⟨y47.2, (hs.view 1 rfl)⟩) hm51 (fun y49 => ?_)
     refine oN 1 [(4, .v (.slice y49.1 l50.length y49.2))] [5, 3] ?_
     refine oe (bn (nt (qr (oN 3 [(5, vi (w64 (s27.1 + 1)))] [4, 3] ?_))))
     exact oe (ct h52 (y49.1, y49.2) [5, 4, 3] [0, 1] 0)
   refine qx (nx (nx (bh ?_)))
   have h53 := leafB hd36 h42 h32
   exact mp (s27.2.1, (y28.1, y28.2)) h53 [4] [0] 0
 have h39 := (congrFun hk34 _).symm.trans h39p
 refine nt (qs (qr (oN 2 [(2, .v (.slice y38.2.1 y38.1.length y38.2.2))] [] ?_)))
 refine oe (nt (qe (rt [.slice y38.2.1 y38.1.length y38.2.2] (fun γ w hs => ?_))))
 rw [← sI h39]
 exact ⟨y38.2, rfl, hs.kept.toBelow, (hs.takeR (is := [0]) rfl).fresh⟩

theorem c_slices_Clone_Node {W : World} {x0 : List Node} {a0_0 : Option Addr} {c0_0 : Nat} {r : (List Node)} (h : slices_Clone_Node x0 = some r) (hv0_0 : SlView W x0 a0_0 c0_0) :
    Gives Tryz.prog 176 #[.slice a0_0 x0.length c0_0] W (fun y : AC => .slice y.1 r.length y.2) (fun y => [SlRes 154 r y.1 y.2]) := by
 unfold slices_Clone_Node at h
 refine en Tryz.func176 Tryz.ntmps176 ?_
 refine qs (qr (oN 1 [] [0] ?_))
 refine oe (nt (qs (qs (qr (oN 1 [(3, .v (.slice a0_0 x0.length c0_0))] [0] ?_)))))
 rcases a0_0 with _ | d21
 · obtain rfl := hv0_0.nil rfl
   obtain rfl := hv0_0.nilE
   have h22 : (some ([] : List Node)) = some r := h
   refine oN 1 [(4, vb true)] [0] ?_
   refine oe (nt (JC_cond true (by kernel_rfl) (fun _ => ?_) (fun hb => by cases hb)))
   refine qs (qr (oN 1 [(2, .v (.slice none 0 0))] [] ?_))
   refine oe (nt (qe (nr (JE_addnil 154 (List.nil (α := Node)) rfl ?_))))
   refine rt [.slice none 0 0] (fun γ w hs => ?_)
   rw [← sI h22]
   exact ⟨(none, 0), rfl, hs.kept.toBelow, (hs.takeR (is := [0]) rfl).fresh⟩
 refine oN 1 [(4, vb false)] [0] ?_
 refine oe (nt (JC_cond false (by kernel_rfl) (fun hb => by cases hb) (fun _ => ?_)))
 refine qk (nt (qs (qr (ob [] [] 154 0 [] ([] : List Node) (own_flat (by kernel_rfl)) (fun y24 => ?_)))))
 refine oN 1 [(6, .v (.slice (some d21) x0.length c0_0))] [5] ?_
 obtain ⟨l27, hm28, h29⟩ := bS h
 refine oa 74 c0_0 Tryz.t154 (vNode (Node.mk 0 0 0 0 (Frac.mk 0 0))) (fun γ w hs => ⟨c0_0, (hv0_0.kept hs.kept)⟩) hm28 (fun y26 => ?_)
 refine oN 1 [(2, .v (.slice y26.1 l27.length y26.2))] [] ?_
 refine oe (nt (qe (rt [.slice y26.1 l27.length y26.2] (fun γ w hs => ?_))))
 rw [← sI h29]
 exact ⟨y26, rfl, hs.kept.toBelow, (hs.takeR (is := [0]) rfl).fresh⟩

theorem c_impl_copyNodes {W : World} {x0 : List Node} {a0_0 : Option Addr} {c0_0 : Nat} {r : (List Node)} (h : impl_copyNodes x0 = some r) (hv0_0 : SlView W x0 a0_0 c0_0) :
    Gives Tryz.prog 118 #[.slice a0_0 x0.length c0_0] W (fun y : AC => .slice y.1 r.length y.2) (fun y => [SlRes 154 r y.1 y.2]) := by
 unfold impl_copyNodes at h
 refine en Tryz.func118 Tryz.ntmps118 ?_
 refine qs (qr (oN 1 [] [0] ?_))
 refine oe (nt (qs (qr (oN 1 [(3, .v (.slice a0_0 x0.length c0_0))] [] ?_))))
 obtain ⟨t21, h22, h23⟩ := bS h
 refine k1 (fun γ w hs => c_slices_Clone_Node h22 (hv0_0.kept hs.kept)) (fun y24 => ?_)
 refine oN 1 [(2, .v (.slice y24.1 t21.length y24.2))] [] ?_
 refine oe (nt (qe (rt [.slice y24.1 t21.length y24.2] (fun γ w hs => ?_))))
 rw [← sI h23]
 exact ⟨y24, rfl, hs.kept.toBelow, (hs.takeR (is := [0]) rfl).fresh⟩

theorem c_impl_copyBook {W : World} {x0 : Book} {a0_0 : Option Addr} {c0_0 : Nat} {r : Book} (h : impl_copyBook x0 = some r) (hv0_0 : SlView W x0.Rules a0_0 c0_0) :
    Gives Tryz.prog 104 #[vBook x0 (a0_0, c0_0)] W (fun y : AC => vBook r y) (fun y => [SlRes 76 r.Rules y.1 y.2]) := by
 unfold impl_copyBook at h
 refine en Tryz.func104 Tryz.ntmps104 ?_
 refine qs (qr (oB 2 [(2, .p 1 0), (1, .p 0 0)] [] [(26, (eBook x0 (a0_0, c0_0))), (26, [.slice none 0 0])] ?_))
 refine oe (nt (qs (qr (oB 3 [(3, .p 2 0)] [2, 1] [(26, (eBook x0 (a0_0, c0_0))), (26, [.slice none 0 0]), (26, [.slice none 0 0])] ?_))))
 refine oe (nt (qs (qs (qr (oN 4 [(10, vi 0), (9, vi (x0.Rules.length : Int)), (8, .v (.slice a0_0 x0.Rules.length c0_0))] [3, 2] ?_)))))
 refine oe (nt (JC_addnil 76 (List.nil (α := Rule)) rfl ?_))
 obtain ⟨r24, hL25, h26⟩ := bS h
 obtain ⟨k27, hk28, h26⟩ := brkS h26
 refine JC_cutP (τ := ((List Rule)) × (AC)) (fun y => k27 y.1 = some r) (fun y32 => [(3, .p 2 0), (2, .p 1 0)]) (fun y32 => [(26, (eBook x0 (a0_0, c0_0))), (26, [.slice none 0 0]), (26, (eBook (Book.mk y32.1) y32.2))]) (fun y32 => [SlRes 76 y32.1 y32.2.1 y32.2.2]) ?_ (fun y32 h33p => ?_)
 · refine qb (lp AC hL25 (fun s21 y22 => [(10, vi s21.1), (9, vi (x0.Rules.length : Int)), (8, .v (.slice a0_0 x0.Rules.length c0_0)), (3, .p 2 0), (2, .p 1 0)]) (fun s21 y22 => [(26, (eBook x0 (a0_0, c0_0))), (26, [.slice none 0 0]), (26, (eBook (Book.mk s21.2) y22))]) (fun s21 y22 => [SlRes 76 s21.2 y22.1 y22.2]) (none, 0) [10, 9, 8, 3, 2] [0] 3 (fun s21 y22 t23 h29 hd30 => ?_))
   refine qs (qr (oN 1 [(11, vb (decide (s21.1 < (x0.Rules.length : Int))))] [10, 9, 8, 3, 2] ?_))
   refine oe (nt (qs (cC h29 (fun h35 => ?_) (fun h36 => ?_))))
   · refine qk (nt (qs (qb (qs (qr ?_)))))
     obtain ⟨x37, hx38, h39⟩ := bS h35
     refine oi 7 (fun γ w hs => (hv0_0.kept hs.kept)) hx38 ?_
     obtain ⟨_, ⟨a40, c41, rfl, hv42⟩, hc43⟩ := SlView.at hv0_0 (idx_some hx38).2.2
     refine ol 76 0 (vRule x37 (a40, c41)) (fun γ w hs => ⟨(hv0_0.kept hs.kept).ne (idx_some hx38).2.2, hc43.kept hs.kept⟩) ?_
     refine oB 2 [(5, .p 3 0)] [10, 9, 8, 3, 2] [(26, (eBook x0 (a0_0, c0_0))), (26, [.slice none 0 0]), (26, (eBook (Book.mk s21.2) y22)), (76, (eRule x37 (a40, c41)))] ?_
     refine oe (nt (qs (qr (oN 2 [(15, .v (.slice a40 x37.Nodes.length c41))] [5, 10, 9, 8, 3, 2] ?_))))
     obtain ⟨t44, h45, h46⟩ := bS h39
     refine k1 (fun γ w hs => c_impl_copyNodes h45 (hv42.kept hs.kept)) (fun y47 => ?_)
     refine oB 2 [] [5, 10, 9, 8, 3, 2] [(26, (eBook x0 (a0_0, c0_0))), (26, [.slice none 0 0]), (26, (eBook (Book.mk s21.2) y22)), (76, (eRule (Rule.mk x37.Name x37.From x37.To x37.Joined x37.Rank x37.Mode t44) y47))] ?_
     refine oe (nt (qr (oN 3 [(20, .v (vRule (Rule.mk x37.Name x37.From x37.To x37.Joined x37.Rank x37.Mode t44) y47)), (19, .v (.slice y22.1 s21.2.length y22.2))] [10, 9, 8, 3, 2] ?_)))
     refine ob [SlRes 154 t44 y47.1 y47.2] [SlRes 76 s21.2 y22.1 y22.2] 76 1 [.int .i64 x37.Name, .int .i64 x37.From, .int .i64 x37.To, .int .i64 x37.Joined, .int .i64 x37.Rank, .int .i64 x37.Mode, .slice y47.1 t44.length y47.2] ([Rule.mk x37.Name x37.From x37.To x37.Joined x37.Rank x37.Mode t44] : List Rule) (own_single (by rintro w Fs ⟨G0, _, rfl, h0, rfl⟩; exact ⟨154, y47.1, y47.2, G0, by simp, rfl, h0⟩)) (fun y48 => ?_)
     refine or_ [1, 0] ?_
     obtain ⟨l51, hm52, h53⟩ := bS h46
     refine JO_appendR (α := Rule) rfl (by kernel_rfl) (t := 24) (e := 76) (a1 := y22.1) (a2 := y48.1) (c1 := y22.2) (c2 := y48.2) (l1 := s21.2) (l2 := ([Rule.mk x37.Name x37.From x37.To x37.Joined x37.Rank x37.Mode t44] : List Rule)) (by kernel_rfl) (i := Tryz.t76) (by kernel_rfl) (z := (vRule (Rule.mk 0 0 0 0 0 0 ([] : List Node)) (none, 0))) (by kernel_rfl) (by kernel_rfl) (by kernel_rfl) (by kernel_rfl) (Rr := []) rfl hm52 _ (fun _ => rfl) (fun y50 => ?_)
     refine oB 2 [] [10, 9, 8, 3, 2] [(26, (eBook x0 (a0_0, c0_0))), (26, [.slice none 0 0]), (26, (eBook (Book.mk l51) y50)), (76, (eRule (Rule.mk x37.Name x37.From x37.To x37.Joined x37.Rank x37.Mode t44) y47))] ?_
     refine oe (bn (nt (qr (oN 2 [(10, vi (w64 (s21.1 + 1)))] [9, 8, 3, 2] ?_))))
     exact oe (ct h53 (y50.1, y50.2) [10, 9, 8, 3, 2] [0] 3)
   refine qx (nx (nx (bh ?_)))
   have h54 := leafB hd30 h36 h26
   exact mp (s21.2, (y22.1, y22.2)) h54 [3, 2] [0] 3
 have h33 := (congrFun hk28 _).symm.trans h33p
 refine nt (qs (qr (oB 2 [] [2] [(26, (eBook x0 (a0_0, c0_0))), (26, (eBook (Book.mk y32.1) y32.2)), (26, (eBook (Book.mk y32.1) y32.2))] ?_)))
 refine oe (nt (qe (rt [vBook (Book.mk y32.1) y32.2] (fun γ w hs => ?_))))
 rw [← sI h33]
 exact ⟨y32.2, rfl, hs.kept.toBelow, (hs.takeR (is := [0]) rfl).fresh⟩

theorem c_slices_Clone_Fact {W : World} {x0 : List Fact} {a0_0 : Option Addr} {c0_0 : Nat} {r : (List Fact)} (h : slices_Clone_Fact x0 = some r) (hv0_0 : SlView W x0 a0_0 c0_0) :
    Gives Tryz.prog 90 #[.slice a0_0 x0.length c0_0] W (fun y : AC => .slice y.1 r.length y.2) (fun y => [SlRes 47 r y.1 y.2]) := by
 unfold slices_Clone_Fact at h
 refine en Tryz.func90 Tryz.ntmps90 ?_
 refine qs (qr (oN 1 [] [0] ?_))
 refine oe (nt (qs (qs (qr (oN 1 [(3, .v (.slice a0_0 x0.length c0_0))] [0] ?_)))))
 rcases a0_0 with _ | d21
 · obtain rfl := hv0_0.nil rfl
   obtain rfl := hv0_0.nilE
   have h22 : (some ([] : List Fact)) = some r := h
   refine oN 1 [(4, vb true)] [0] ?_
   refine oe (nt (JC_cond true (by kernel_rfl) (fun _ => ?_) (fun hb => by cases hb)))
   refine qs (qr (oN 1 [(2, .v (.slice none 0 0))] [] ?_))
   refine oe (nt (qe (nr (JE_addnil 47 (List.nil (α := Fact)) rfl ?_))))
   refine rt [.slice none 0 0] (fun γ w hs => ?_)
   rw [← sI h22]
   exact ⟨(none, 0), rfl, hs.kept.toBelow, (hs.takeR (is := [0]) rfl).fresh⟩
 refine oN 1 [(4, vb false)] [0] ?_
 refine oe (nt (JC_cond false (by kernel_rfl) (fun hb => by cases hb) (fun _ => ?_)))
 refine qk (nt (qs (qr (ob [] [] 47 0 [] ([] : List Fact) (own_flat (by kernel_rfl)) (fun y24 => ?_)))))
 refine oN 1 [(6, .v (.slice (some d21) x0.length c0_0))] [5] ?_
 obtain ⟨l27, hm28, h29⟩ := bS h
 refine oa 27 c0_0 Tryz.t47 (vFact (Fact.mk 0 0 0 0 0)) (fun γ w hs => ⟨c0_0, (hv0_0.kept hs.kept)⟩) hm28 (fun y26 => ?_)
 refine oN 1 [(2, .v (.slice y26.1 l27.length y26.2))] [] ?_
 refine oe (nt (qe (rt [.slice y26.1 l27.length y26.2] (fun γ w hs => ?_))))
 rw [← sI h29]
 exact ⟨y26, rfl, hs.kept.toBelow, (hs.takeR (is := [0]) rfl).fresh⟩

theorem c_impl_copyStore {W : World} {x0 : Store} {a0_0 : Option Addr} {c0_0 : Nat} {r : Store} (h : impl_copyStore x0 = some r) (hv0_0 : SlView W x0.Facts a0_0 c0_0) :
    Gives Tryz.prog 92 #[vStore x0 (a0_0, c0_0)] W (fun y : AC => vStore r y) (fun y => [SlRes 47 r.Facts y.1 y.2]) := by
 unfold impl_copyStore at h
 refine en Tryz.func92 Tryz.ntmps92 ?_
 refine qs (qr (oB 2 [(2, .p 1 0), (1, .p 0 0)] [] [(29, (eStore x0 (a0_0, c0_0))), (29, [.slice none 0 0])] ?_))
 refine oe (nt (qs (qr (oN 2 [(4, .v (.slice a0_0 x0.Facts.length c0_0))] [2] ?_))))
 obtain ⟨t21, h22, h23⟩ := bS h
 refine k1 (fun γ w hs => c_slices_Clone_Fact h22 (hv0_0.kept hs.kept)) (fun y24 => ?_)
 refine oB 2 [] [2] [(29, (eStore x0 (a0_0, c0_0))), (29, (eStore (Store.mk t21) y24))] ?_
 refine oe (nt (qe (rt [vStore (Store.mk t21) y24] (fun γ w hs => ?_))))
 rw [← sI h23]
 exact ⟨y24, rfl, hs.kept.toBelow, (hs.takeR (is := [0]) rfl).fresh⟩

theorem c_slices_Clone_Point {W : World} {x0 : List Point} {a0_0 : Option Addr} {c0_0 : Nat} {r : (List Point)} (h : slices_Clone_Point x0 = some r) (hv0_0 : SlView W x0 a0_0 c0_0) :
    Gives Tryz.prog 93 #[.slice a0_0 x0.length c0_0] W (fun y : AC => .slice y.1 r.length y.2) (fun y => [SlRes 52 r y.1 y.2]) := by
 unfold slices_Clone_Point at h
 refine en Tryz.func93 Tryz.ntmps93 ?_
 refine qs (qr (oN 1 [] [0] ?_))
 refine oe (nt (qs (qs (qr (oN 1 [(3, .v (.slice a0_0 x0.length c0_0))] [0] ?_)))))
 rcases a0_0 with _ | d21
 · obtain rfl := hv0_0.nil rfl
   obtain rfl := hv0_0.nilE
   have h22 : (some ([] : List Point)) = some r := h
   refine oN 1 [(4, vb true)] [0] ?_
   refine oe (nt (JC_cond true (by kernel_rfl) (fun _ => ?_) (fun hb => by cases hb)))
   refine qs (qr (oN 1 [(2, .v (.slice none 0 0))] [] ?_))
   refine oe (nt (qe (nr (JE_addnil 52 (List.nil (α := Point)) rfl ?_))))
   refine rt [.slice none 0 0] (fun γ w hs => ?_)
   rw [← sI h22]
   exact ⟨(none, 0), rfl, hs.kept.toBelow, (hs.takeR (is := [0]) rfl).fresh⟩
 refine oN 1 [(4, vb false)] [0] ?_
 refine oe (nt (JC_cond false (by kernel_rfl) (fun hb => by cases hb) (fun _ => ?_)))
 refine qk (nt (qs (qr (ob [] [] 52 0 [] ([] : List Point) (own_flat (by kernel_rfl)) (fun y24 => ?_)))))
 refine oN 1 [(6, .v (.slice (some d21) x0.length c0_0))] [5] ?_
 obtain ⟨l27, hm28, h29⟩ := bS h
 refine oa 30 c0_0 Tryz.t52 (vPoint (Point.mk 0 0 0)) (fun γ w hs => ⟨c0_0, (hv0_0.kept hs.kept)⟩) hm28 (fun y26 => ?_)
 refine oN 1 [(2, .v (.slice y26.1 l27.length y26.2))] [] ?_
 refine oe (nt (qe (rt [.slice y26.1 l27.length y26.2] (fun γ w hs => ?_))))
 rw [← sI h29]
 exact ⟨y26, rfl, hs.kept.toBelow, (hs.takeR (is := [0]) rfl).fresh⟩

theorem c_impl_copySeries {W : World} {x0 : Series} {a0_0 : Option Addr} {c0_0 : Nat} {r : Series} (h : impl_copySeries x0 = some r) (hv0_0 : SlView W x0.Points a0_0 c0_0) :
    Gives Tryz.prog 95 #[vSeries x0 (a0_0, c0_0)] W (fun y : AC => vSeries r y) (fun y => [SlRes 52 r.Points y.1 y.2]) := by
 unfold impl_copySeries at h
 refine en Tryz.func95 Tryz.ntmps95 ?_
 refine qs (qr (oB 2 [(2, .p 1 0), (1, .p 0 0)] [] [(32, (eSeries x0 (a0_0, c0_0))), (32, [.slice none 0 0])] ?_))
 refine oe (nt (qs (qr (oN 2 [(4, .v (.slice a0_0 x0.Points.length c0_0))] [2] ?_))))
 obtain ⟨t21, h22, h23⟩ := bS h
 refine k1 (fun γ w hs => c_slices_Clone_Point h22 (hv0_0.kept hs.kept)) (fun y24 => ?_)
 refine oB 2 [] [2] [(32, (eSeries x0 (a0_0, c0_0))), (32, (eSeries (Series.mk t21) y24))] ?_
 refine oe (nt (qe (rt [vSeries (Series.mk t21) y24] (fun γ w hs => ?_))))
 rw [← sI h23]
 exact ⟨y24, rfl, hs.kept.toBelow, (hs.takeR (is := [0]) rfl).fresh⟩

theorem c_slices_Clone_Spell {W : World} {x0 : List Spell} {a0_0 : Option Addr} {c0_0 : Nat} {r : (List Spell)} (h : slices_Clone_Spell x0 = some r) (hv0_0 : SlView W x0 a0_0 c0_0) :
    Gives Tryz.prog 154 #[.slice a0_0 x0.length c0_0] W (fun y : AC => .slice y.1 r.length y.2) (fun y => [SlRes 156 r y.1 y.2]) := by
 unfold slices_Clone_Spell at h
 refine en Tryz.func154 Tryz.ntmps154 ?_
 refine qs (qr (oN 1 [] [0] ?_))
 refine oe (nt (qs (qs (qr (oN 1 [(3, .v (.slice a0_0 x0.length c0_0))] [0] ?_)))))
 rcases a0_0 with _ | d21
 · obtain rfl := hv0_0.nil rfl
   obtain rfl := hv0_0.nilE
   have h22 : (some ([] : List Spell)) = some r := h
   refine oN 1 [(4, vb true)] [0] ?_
   refine oe (nt (JC_cond true (by kernel_rfl) (fun _ => ?_) (fun hb => by cases hb)))
   refine qs (qr (oN 1 [(2, .v (.slice none 0 0))] [] ?_))
   refine oe (nt (qe (nr (JE_addnil 156 (List.nil (α := Spell)) rfl ?_))))
   refine rt [.slice none 0 0] (fun γ w hs => ?_)
   rw [← sI h22]
   exact ⟨(none, 0), rfl, hs.kept.toBelow, (hs.takeR (is := [0]) rfl).fresh⟩
 refine oN 1 [(4, vb false)] [0] ?_
 refine oe (nt (JC_cond false (by kernel_rfl) (fun hb => by cases hb) (fun _ => ?_)))
 refine qk (nt (qs (qr (ob [] [] 156 0 [] ([] : List Spell) (own_flat (by kernel_rfl)) (fun y24 => ?_)))))
 refine oN 1 [(6, .v (.slice (some d21) x0.length c0_0))] [5] ?_
 obtain ⟨l27, hm28, h29⟩ := bS h
 refine oa 33 c0_0 Tryz.t156 (vSpell (Spell.mk 0 0 0 false)) (fun γ w hs => ⟨c0_0, (hv0_0.kept hs.kept)⟩) hm28 (fun y26 => ?_)
 refine oN 1 [(2, .v (.slice y26.1 l27.length y26.2))] [] ?_
 refine oe (nt (qe (rt [.slice y26.1 l27.length y26.2] (fun γ w hs => ?_))))
 rw [← sI h29]
 exact ⟨y26, rfl, hs.kept.toBelow, (hs.takeR (is := [0]) rfl).fresh⟩

theorem c_slices_Clone_Event {W : World} {x0 : List Event} {a0_0 : Option Addr} {c0_0 : Nat} {r : (List Event)} (h : slices_Clone_Event x0 = some r) (hv0_0 : SlView W x0 a0_0 c0_0) :
    Gives Tryz.prog 155 #[.slice a0_0 x0.length c0_0] W (fun y : AC => .slice y.1 r.length y.2) (fun y => [SlRes 158 r y.1 y.2]) := by
 unfold slices_Clone_Event at h
 refine en Tryz.func155 Tryz.ntmps155 ?_
 refine qs (qr (oN 1 [] [0] ?_))
 refine oe (nt (qs (qs (qr (oN 1 [(3, .v (.slice a0_0 x0.length c0_0))] [0] ?_)))))
 rcases a0_0 with _ | d21
 · obtain rfl := hv0_0.nil rfl
   obtain rfl := hv0_0.nilE
   have h22 : (some ([] : List Event)) = some r := h
   refine oN 1 [(4, vb true)] [0] ?_
   refine oe (nt (JC_cond true (by kernel_rfl) (fun _ => ?_) (fun hb => by cases hb)))
   refine qs (qr (oN 1 [(2, .v (.slice none 0 0))] [] ?_))
   refine oe (nt (qe (nr (JE_addnil 158 (List.nil (α := Event)) rfl ?_))))
   refine rt [.slice none 0 0] (fun γ w hs => ?_)
   rw [← sI h22]
   exact ⟨(none, 0), rfl, hs.kept.toBelow, (hs.takeR (is := [0]) rfl).fresh⟩
 refine oN 1 [(4, vb false)] [0] ?_
 refine oe (nt (JC_cond false (by kernel_rfl) (fun hb => by cases hb) (fun _ => ?_)))
 refine qk (nt (qs (qr (ob [] [] 158 0 [] ([] : List Event) (own_flat (by kernel_rfl)) (fun y24 => ?_)))))
 refine oN 1 [(6, .v (.slice (some d21) x0.length c0_0))] [5] ?_
 obtain ⟨l27, hm28, h29⟩ := bS h
 refine oa 34 c0_0 Tryz.t158 (vEvent (Event.mk 0 0)) (fun γ w hs => ⟨c0_0, (hv0_0.kept hs.kept)⟩) hm28 (fun y26 => ?_)
 refine oN 1 [(2, .v (.slice y26.1 l27.length y26.2))] [] ?_
 refine oe (nt (qe (rt [.slice y26.1 l27.length y26.2] (fun γ w hs => ?_))))
 rw [← sI h29]
 exact ⟨y26, rfl, hs.kept.toBelow, (hs.takeR (is := [0]) rfl).fresh⟩

theorem c_impl_copyMember {W : World} {x0 : Member} {b0 : AC × AC} {r : Member} (h : impl_copyMember x0 = some r) (hv0_0 : SlView W x0.Spells b0.1.1 b0.1.2) (hv0_1 : SlView W x0.Events b0.2.1 b0.2.2) :
    Gives Tryz.prog 105 #[vMember x0 b0] W (fun y : AC × AC => vMember r y) (fun y => [SlRes 156 r.Spells y.1.1 y.1.2, SlRes 158 r.Events y.2.1 y.2.2]) := by
 unfold impl_copyMember at h
 refine en Tryz.func105 Tryz.ntmps105 ?_
 refine qs (qr (oB 2 [(2, .p 1 0), (1, .p 0 0)] [] [(36, (eMember x0 b0)), (36, [.int .i64 0, .int .i64 0, .slice none 0 0, .slice none 0 0])] ?_))
 refine oe (nt (qs (qr (oN 2 [(4, .v (.slice b0.1.1 x0.Spells.length b0.1.2))] [2, 1] ?_))))
 obtain ⟨t21, h22, h23⟩ := bS h
 refine k1 (fun γ w hs => c_slices_Clone_Spell h22 (hv0_0.kept hs.kept)) (fun y24 => ?_)
 refine oB 2 [] [2, 1] [(36, (eMember (Member.mk x0.Birth x0.Joined t21 x0.Events) (y24, b0.2))), (36, [.int .i64 0, .int .i64 0, .slice none 0 0, .slice none 0 0])] ?_
 refine oe (nt (qs (qr (oN 2 [(8, .v (.slice b0.2.1 x0.Events.length b0.2.2))] [2, 1] ?_))))
 obtain ⟨t25, h26, h27⟩ := bS h23
 refine k1 (fun γ w hs => c_slices_Clone_Event h26 (hv0_1.kept hs.kept)) (fun y28 => ?_)
 refine oB 2 [] [2, 1] [(36, (eMember (Member.mk x0.Birth x0.Joined t21 t25) (y24, y28))), (36, [.int .i64 0, .int .i64 0, .slice none 0 0, .slice none 0 0])] ?_
 refine oe (nt (qs (qr (oB 2 [] [2] [(36, (eMember (Member.mk x0.Birth x0.Joined t21 t25) (y24, y28))), (36, (eMember (Member.mk x0.Birth x0.Joined t21 t25) (y24, y28)))] ?_))))
 refine oe (nt (qe (rt [vMember (Member.mk x0.Birth x0.Joined t21 t25) (y24, y28)] (fun γ w hs => ?_))))
 rw [← sI h27]
 exact ⟨(y24, y28), rfl, hs.kept.toBelow, (hs.takeR (is := [1, 0]) rfl).fresh⟩

theorem c_impl_copyCase {W : World} {x0 : Case} {b0 : AC × AC × AC × AC × AC} {r : Case} (h : impl_copyCase x0 = some r) (hv0_0 : SlView W x0.Book.Rules b0.1.1 b0.1.2) (hv0_1 : SlView W x0.Store.Facts b0.2.1.1 b0.2.1.2) (hv0_2 : SlView W x0.Series.Points b0.2.2.1.1 b0.2.2.1.2) (hv0_3 : SlView W x0.Member.Spells b0.2.2.2.1.1 b0.2.2.2.1.2) (hv0_4 : SlView W x0.Member.Events b0.2.2.2.2.1 b0.2.2.2.2.2) :
    Gives Tryz.prog 65 #[vCase x0 b0] W (fun y : AC × AC × AC × AC × AC => vCase r y) (fun y => [SlRes 76 r.Book.Rules y.1.1 y.1.2, SlRes 47 r.Store.Facts y.2.1.1 y.2.1.2, SlRes 52 r.Series.Points y.2.2.1.1 y.2.2.1.2, SlRes 156 r.Member.Spells y.2.2.2.1.1 y.2.2.2.1.2, SlRes 158 r.Member.Events y.2.2.2.2.1 y.2.2.2.2.2]) := by
 unfold impl_copyCase at h
 refine en Tryz.func65 Tryz.ntmps65 ?_
 refine qs (qr (oB 2 [(2, .p 1 0), (1, .p 0 0)] [] [(38, (eCase x0 b0)), (38, [.slice none 0 0, .slice none 0 0, .slice none 0 0, .int .i64 0, .int .i64 0, .slice none 0 0, .slice none 0 0])] ?_))
 refine oe (nt (qs ?_))
 obtain ⟨t21, h22, h23⟩ := bS h
 obtain ⟨t25, h26, h27⟩ := bS h23
 obtain ⟨t29, h30, h31⟩ := bS h27
 obtain ⟨t33, h34, h35⟩ := bS h31
 refine JC_cut (τ := AC × AC × AC × (AC × AC)) (fun y37 => [(2, .p 1 0)]) (fun y37 => [(38, (eCase x0 b0)), (38, (eCase (Case.mk t21 t25 t29 t33) y37))]) (fun y37 => [SlRes 156 t33.Spells y37.2.2.2.1.1 y37.2.2.2.1.2, SlRes 158 t33.Events y37.2.2.2.2.1 y37.2.2.2.2.2, SlRes 52 t29.Points y37.2.2.1.1 y37.2.2.1.2, SlRes 47 t25.Facts y37.2.1.1 y37.2.1.2, SlRes 76 t21.Rules y37.1.1 y37.1.2]) ?_ (fun y37 => ?_)
 · refine jw [2, 1] [] ?_
   refine JC_heldN (ks := [0]) (Rk := []) 14 (by kernel_rfl) (by kernel_rfl) ?_
   refine htq 0 (.p 0 0) [] ?_
   refine htq 1 (.v (vBook x0.Book b0.1)) [] ?_
   refine hk [4, 2, 1] ?_
   refine htq 3 (.p 0 1) [] ?_
   refine htq 4 (.v (vStore x0.Store b0.2.1)) [] ?_
   refine hk [7, 4, 2, 1] ?_
   refine htq 6 (.p 0 2) [] ?_
   refine htq 7 (.v (vSeries x0.Series b0.2.2.1)) [] ?_
   refine hk [10, 7, 4, 2, 1] ?_
   refine htq 9 (.p 0 3) [] ?_
   refine hk [12, 10, 7, 4, 2] ?_
   refine htq 10 (.v (vMember x0.Member b0.2.2.2)) [] ?_
   refine hk [13, 10, 7, 4, 2] ?_
   refine ha1 2 ?_
   refine hi (fun γ0 δ hm => ?_)
   refine g1 (fun w hs => c_impl_copyBook h22 (hv0_0.kept hs.kept)) (fun y24 => ?_)
   refine gn hm [5, 13, 10, 7, 2] [] ?_
   refine ha1 5 ?_
   refine hi (fun γ0 δ hm => ?_)
   refine g1 (fun w hs => c_impl_copyStore h26 (hv0_1.kept hs.kept)) (fun y28 => ?_)
   refine gn hm [8, 5, 13, 10, 2] [] ?_
   refine ha1 8 ?_
   refine hi (fun γ0 δ hm => ?_)
   refine g1 (fun w hs => c_impl_copySeries h30 (hv0_2.kept hs.kept)) (fun y32 => ?_)
   refine gn hm [11, 8, 5, 13, 2] [] ?_
   refine ha1 11 ?_
   refine hi (fun γ0 δ hm => ?_)
   refine g1 (fun w hs => c_impl_copyMember (b0 := b0.2.2.2) h34 (hv0_3.kept hs.kept) (hv0_4.kept hs.kept)) (fun y36 => ?_)
   refine gn hm [14, 11, 8, 5, 2] [] ?_
   refine htq 12 (.v (vCase (Case.mk t21 t25 t29 t33) (y24, y28, y32, y36.1, y36.2))) [] ?_
   refine hk [15, 2] ?_
   refine ha1 13 ?_
   refine hi (fun γ0 δ hm => ?_)
   refine gs [(15, .v (vCase (Case.mk t21 t25 t29 t33) (y24, y28, y32, y36.1, y36.2))), (2, .p 1 0)] [(38, (eCase x0 b0)), (38, (eCase (Case.mk t21 t25 t29 t33) (y24, y28, y32, y36.1, y36.2)))] (fun δ2 => ?_)
   refine gd hm [2] [] ?_
   exact hd (y24, y28, y32, y36) [2] [0, 0, 0, 0, 0] 2
 refine nt (qe (rt [vCase (Case.mk t21 t25 t29 t33) y37] (fun γ w hs => ?_)))
 rw [← sI h35]
 exact ⟨(y37.1, y37.2.1, y37.2.2.1, y37.2.2.2.1, y37.2.2.2.2), rfl, hs.kept.toBelow, (hs.takeR (is := [4, 3, 2, 0, 0]) rfl).fresh⟩

theorem c_impl_within {W : World} {x0 : Int} {x1 : Int} {x2 : Int} {r : Bool} (h : impl_within x0 x1 x2 = some r)  :
    Gives0 Tryz.prog 98 #[.int .i64 x0, .int .i64 x1, .int .i64 x2] W (.bool r) := by
 unfold impl_within at h
 refine en Tryz.func98 Tryz.ntmps98 ?_
 refine qs (qr (oN 1 [] [0, 1, 2] ?_))
 refine oe (nt (qs ?_))
 obtain ⟨p21, hE22, h23⟩ := bS h
 refine JC_cut (τ := Unit) (fun _ => [(6, vb p21)]) (fun _ => []) (fun _ => []) ?_ (fun _ => ?_)
 · refine qr (oN 4 [(10, vb (decide (x1 ≤ x0)))] [0, 2] ?_)
   refine oS 10 hE22 (fun h25 => ?_) (fun h26 => ?_)
   · refine oN 5 [(6, vb (decide (x0 ≤ x2)))] [] ?_
     refine oe ?_
     obtain rfl := sI h25
     exact mt () [6] [] 0
   refine oN 5 [(6, vb false)] [] ?_
   refine oe ?_
   obtain rfl := sI h26
   exact mt () [6] [] 0
 refine nt (qe ?_)
 obtain rfl := sI h23
 exact re [.bool p21]

theorem c_impl_isSpan {W : World} {x0 : Int} {x1 : Int} {r : Bool} (h : impl_isSpan x0 x1 = some r)  :
    Gives0 Tryz.prog 189 #[.int .i64 x0, .int .i64 x1] W (.bool r) := by
 unfold impl_isSpan at h
 refine en Tryz.func189 Tryz.ntmps189 ?_
 refine qs (qr (oN 1 [] [0, 1] ?_))
 refine oe (nt (qs ?_))
 obtain ⟨p21, hE22, h23⟩ := bS h
 refine JC_cut (τ := Unit) (fun _ => [(4, vb p21)]) (fun _ => []) (fun _ => []) ?_ (fun _ => ?_)
 · refine qr (oN 3 [(7, vb (decide (0 ≤ x0)))] [0, 1] ?_)
   refine oS 7 hE22 (fun h25 => ?_) (fun h26 => ?_)
   · refine oN 5 [(12, vb (decide (x0 < x1)))] [1] ?_
     refine oS 12 h25 (fun h28 => ?_) (fun h29 => ?_)
     · refine oN 4 [(4, vb (decide (x1 ≤ 3600)))] [] ?_
       refine oe ?_
       obtain rfl := sI h28
       exact mt () [4] [] 0
     refine oN 4 [(4, vb false)] [] ?_
     refine oe ?_
     obtain rfl := sI h29
     exact mt () [4] [] 0
   refine oN 9 [(4, vb false)] [] ?_
   refine oe ?_
   obtain rfl := sI h26
   exact mt () [4] [] 0
 refine nt (qe ?_)
 obtain rfl := sI h23
 exact re [.bool p21]

theorem c_impl_gcd {W : World} {x0 : Int} {x1 : Int} {r : Int} (h : impl_gcd x0 x1 = some r)  :
    Gives0 Tryz.prog 184 #[.int .i64 x0, .int .i64 x1] W (.int .i64 r) := by
 unfold impl_gcd at h
 refine en Tryz.func184 Tryz.ntmps184 ?_
 refine qs (qr (oN 1 [] [0, 1] ?_))
 refine oe (nt (qs ?_))
 obtain ⟨r24, hL25, h26⟩ := bS h
 obtain ⟨k27, hk28, h26⟩ := brkS h26
 refine JC_cutP (τ := (Int) × (Unit)) (fun y => k27 y.1 = some r) (fun y32 => [(0, vi y32.1)]) (fun y32 => []) (fun y32 => []) ?_ (fun y32 h33p => ?_)
 · refine qb (lp Unit hL25 (fun s21 y22 => [(0, vi s21.1), (1, vi s21.2)]) (fun s21 y22 => []) (fun s21 y22 => []) () [0, 1] [] 0 (fun s21 y22 t23 h29 hd30 => ?_))
   refine qs (qs (qr (oN 2 [(6, vb (s21.2 != 0))] [0, 1] ?_)))
   refine oe (nt (cC h29 (fun h35 => ?_) (fun h36 => ?_)))
   · refine qk (nt (qb (JC_quiet (by kernel_rfl) (by kernel_rfl) ?_)))
     refine qN 3 [(9, vi s21.2), (8, vi s21.1), (7, vi s21.2)] [] ?_
     obtain ⟨u39, hz38, h37⟩ := bS h35
     refine JQ_div rfl (by kernel_rfl) (op := .rem) (k := .i64) (x := s21.1) (y := s21.2) (by kernel_rfl) (nz_some hz38) rfl ?_
     refine qN 2 [(1, vi (Int.tmod s21.1 s21.2)), (0, vi s21.2)] [] ?_
     exact qz (bn (ct h37 () [0, 1] [] 0))
   refine qx (nx (nx (bh ?_)))
   have h40 := leafB hd30 h36 h26
   exact mp (s21.1, ()) h40 [0] [] 0
 have h33 := (congrFun hk28 _).symm.trans h33p
 refine nt (qs (qr (oN 5 [(4, vi (imax y32.1 (w64 (0 - y32.1))))] [] ?_)))
 refine oe (nt (qe ?_))
 obtain rfl := sI h33
 exact re [.int .i64 (imax y32.1 (w64 (0 - y32.1)))]

theorem c_impl_FracOk {W : World} {x0 : Frac} {r : Bool} (h : impl_FracOk x0 = some r)  :
    Gives0 Tryz.prog 137 #[vFrac x0] W (.bool r) := by
 unfold impl_FracOk at h
 refine en Tryz.func137 Tryz.ntmps137 ?_
 refine qs (qr (oB 2 [(1, .p 0 0)] [] [(133, (eFrac x0))] ?_))
 refine oe (nt (qs ?_))
 obtain ⟨p21, hE22, h23⟩ := bS h
 refine JC_cut (τ := Unit) (fun _ => [(2, vb p21)]) (fun _ => [(133, (eFrac x0))]) (fun _ => []) ?_ (fun _ => ?_)
 · refine qr (oN 2 [(4, vi x0.Den)] [1] ?_)
   obtain ⟨t24, h25, h26⟩ := bS hE22
   refine k0 (fun γ w hs => c_impl_within h25) ?_
   refine oN 1 [(6, vb t24)] [1] ?_
   refine oS 6 h26 (fun h29 => ?_) (fun h30 => ?_)
   · refine oN 2 [(8, vi x0.Num)] [6, 1] ?_
     obtain ⟨t31, h32, h33⟩ := bS h29
     refine k0 (fun γ w hs => c_impl_within h32) ?_
     refine oN 2 [(11, vb t31)] [1] ?_
     refine oS 11 h33 (fun h36 => ?_) (fun h37 => ?_)
     · refine oN 4 [(15, vi x0.Den), (13, vi x0.Num)] [11] ?_
       obtain ⟨t38, h39, h40⟩ := bS h36
       refine k0 (fun γ w hs => c_impl_gcd h39) ?_
       refine oN 3 [(2, vb (t38 == 1))] [] ?_
       refine oe ?_
       obtain rfl := sI h40
       exact mt () [2] [] 1
     refine oN 8 [(2, vb false)] [] ?_
     refine oe ?_
     obtain rfl := sI h37
     exact mt () [2] [] 1
   refine oN 13 [(2, vb false)] [] ?_
   refine oe ?_
   obtain rfl := sI h30
   exact mt () [2] [] 1
 refine nt (qe ?_)
 obtain rfl := sI h23
 exact re [.bool p21]

theorem c_impl_NodeOk {W : World} {x0 : Node} {x1 : Int} {r : Bool} (h : impl_NodeOk x0 x1 = some r)  :
    Gives0 Tryz.prog 202 #[vNode x0, .int .i64 x1] W (.bool r) := by
 unfold impl_NodeOk at h
 refine en Tryz.func202 Tryz.ntmps202 ?_
 refine qs (qr (oB 2 [(2, .p 0 0)] [1] [(154, (eNode x0))] ?_))
 refine oe (nt (qs (qr (oB 5 [(5, .p 1 0)] [2, 1] [(154, (eNode x0)), (154, (eNode (Node.mk x0.Kind 0 0 0 (Frac.mk 0 0))))] ?_))))
 refine oe (nt (qs (qb (qs (qr (oN 4 [(9, vb (x0.Kind == 1))] [5, 2, 1] ?_))))))
 refine oe (nt (cC h (fun h52 => ?_) (fun h53 => ?_)))
 · refine qs (qr (oB 4 [] [5, 2] [(154, (eNode x0)), (154, (eNode (Node.mk x0.Kind 0 0 0 x0.Value)))] ?_))
   refine oe (nt (qs ?_))
   obtain ⟨p54, hE55, h56⟩ := bS h52
   refine JC_cut (τ := Unit) (fun _ => [(4, vb p54)]) (fun _ => [(154, (eNode x0)), (154, (eNode (Node.mk x0.Kind 0 0 0 x0.Value)))]) (fun _ => []) ?_ (fun _ => ?_)
   · refine qr (oN 4 [(19, vb ((x0.Kind == x0.Kind) && ((x0.A == 0) && ((x0.B == 0) && ((x0.C == 0) && (((x0.Value.Num == x0.Value.Num) && ((x0.Value.Den == x0.Value.Den) && true)) && true))))))] [2] ?_)
     refine oS 19 hE55 (fun h58 => ?_) (fun h59 => ?_)
     · refine oN 2 [(21, .v (vFrac x0.Value))] [19] ?_
       obtain ⟨t60, h61, h62⟩ := bS h58
       refine k0 (fun γ w hs => c_impl_FracOk h61) ?_
       refine oN 2 [(4, vb t60)] [] ?_
       refine oe ?_
       obtain rfl := sI h62
       exact mt () [4] [] 2
     refine oN 5 [(4, vb false)] [] ?_
     refine oe ?_
     obtain rfl := sI h59
     exact mt () [4] [] 2
   refine nt (qe (br (nr ?_)))
   obtain rfl := sI h56
   exact re [.bool p54]
 refine qs (qr (oN 4 [(24, vb (x0.Kind == 2))] [5, 2, 1] ?_))
 refine oe (nt (cC h53 (fun h82 => ?_) (fun h83 => ?_)))
 · refine qs (qr (oB 4 [] [5, 2] [(154, (eNode x0)), (154, (eNode (Node.mk x0.Kind x0.A 0 0 (Frac.mk 0 0))))] ?_))
   refine oe (nt (qs ?_))
   obtain ⟨p84, hE85, h86⟩ := bS h82
   refine JC_cut (τ := Unit) (fun _ => [(4, vb p84)]) (fun _ => [(154, (eNode x0)), (154, (eNode (Node.mk x0.Kind x0.A 0 0 (Frac.mk 0 0))))]) (fun _ => []) ?_ (fun _ => ?_)
   · refine qr (oN 4 [(34, vb ((x0.Kind == x0.Kind) && ((x0.A == x0.A) && ((x0.B == 0) && ((x0.C == 0) && (((x0.Value.Num == 0) && ((x0.Value.Den == 0) && true)) && true))))))] [2] ?_)
     refine oS 34 hE85 (fun h88 => ?_) (fun h89 => ?_)
     · refine oN 2 [(36, vi x0.A)] [34] ?_
       obtain ⟨t90, h91, h92⟩ := bS h88
       refine k0 (fun γ w hs => c_impl_within h91) ?_
       refine oN 2 [(4, vb t90)] [] ?_
       refine oe ?_
       obtain rfl := sI h92
       exact mt () [4] [] 2
     refine oN 5 [(4, vb false)] [] ?_
     refine oe ?_
     obtain rfl := sI h89
     exact mt () [4] [] 2
   refine nt (qe (br (nr ?_)))
   obtain rfl := sI h86
   exact re [.bool p84]
 refine qs (qr (oN 2 [(41, vi x0.Kind)] [5, 2, 1] ?_))
 obtain ⟨t94, h95, h96⟩ := bS h83
 refine k0 (fun γ w hs => c_impl_within h95) ?_
 refine oN 2 [(39, vb (!t94))] [5, 2, 1] ?_
 refine oe (nt (cC h96 (fun h99 => ?_) (fun h100 => ?_)))
 · refine qs (qr (oN 1 [(4, vb false)] [] ?_))
   refine oe (nt (qe (br (nr ?_))))
   obtain rfl := sI h99
   exact re [.bool false]
 refine qk (bn (nt (qs (JC_cut (τ := Unit) (fun _ => [(5, .p 1 0), (2, .p 0 0), (1, vi x1)]) (fun _ => [(154, (eNode x0)), (154, (eNode (Node.mk x0.Kind x0.A x0.B 0 (Frac.mk 0 0))))]) (fun _ => []) ?_ (fun _ => ?_)))))
 · refine jw [5, 2, 1] [] ?_
   refine JC_heldN (ks := [0]) (Rk := []) 8 (by kernel_rfl) (by kernel_rfl) ?_
   refine htq 0 (.p 0 1) [] ?_
   refine htq 1 (vi x0.A) [] ?_
   refine hk [45, 5, 2, 1] ?_
   refine htq 2 (.p 0 2) [] ?_
   refine htq 3 (vi x0.B) [] ?_
   refine hk [47, 45, 5, 2, 1] ?_
   refine htq 4 (.p 1 1) [] ?_
   refine ha1 5 ?_
   refine hi (fun γ0 δ hm => ?_)
   refine gs [(48, .p 1 1), (47, vi x0.B), (45, vi x0.A), (5, .p 1 0), (2, .p 0 0), (1, vi x1)] [(154, (eNode x0)), (154, (eNode (Node.mk x0.Kind x0.A 0 0 (Frac.mk 0 0))))] (fun δ2 => ?_)
   refine gd hm [47, 5, 2, 1] [] ?_
   refine htq 6 (.p 1 2) [] ?_
   refine ha1 7 ?_
   refine hi (fun γ0 δ hm => ?_)
   refine gs [(49, .p 1 2), (47, vi x0.B), (5, .p 1 0), (2, .p 0 0), (1, vi x1)] [(154, (eNode x0)), (154, (eNode (Node.mk x0.Kind x0.A x0.B 0 (Frac.mk 0 0))))] (fun δ2 => ?_)
   refine gd hm [5, 2, 1] [] ?_
   exact hd () [5, 2, 1] [] 2
 refine nt (qs (qs (qr (oN 3 [(52, vb (x0.Kind == 9))] [5, 2, 1] ?_))))
 refine oe (nt ?_)
 obtain ⟨k105, hk106, h135⟩ := jS h100
 refine JC_cutP (τ := (Int) × (Unit)) (fun y => k105 y.1 = some r) (fun y104 => [(5, .p 1 0), (2, .p 0 0), (1, vi x1)]) (fun y104 => [(154, (eNode x0)), (154, (eNode (Node.mk x0.Kind x0.A x0.B y104.1 (Frac.mk 0 0))))]) (fun y104 => []) ?_ (fun y104 h107p => ?_)
 · refine cC h135 (fun h137 => ?_) (fun h138 => ?_)
   · refine qr (oB 4 [] [5, 2, 1] [(154, (eNode x0)), (154, (eNode (Node.mk x0.Kind x0.A x0.B x0.C (Frac.mk 0 0))))] ?_)
     exact oe (mp (x0.C, ()) h137 [5, 2, 1] [] 2)
   exact qk (mp (0, ()) h138 [5, 2, 1] [] 2)
 have h107 := (congrFun hk106 _).symm.trans h107p
 refine nt (qs ?_)
 obtain ⟨p108, hE109, h110⟩ := bS h107
 refine JC_cut (τ := Unit) (fun _ => [(4, vb p108)]) (fun _ => [(154, (eNode x0)), (154, (eNode (Node.mk x0.Kind x0.A x0.B y104.1 (Frac.mk 0 0))))]) (fun _ => []) ?_ (fun _ => ?_)
 · refine qr (oN 4 [(59, vb ((x0.Kind == x0.Kind) && ((x0.A == x0.A) && ((x0.B == x0.B) && ((x0.C == y104.1) && (((x0.Value.Num == 0) && ((x0.Value.Den == 0) && true)) && true))))))] [2, 1] ?_)
   refine oS 59 hE109 (fun h112 => ?_) (fun h113 => ?_)
   · refine oN 4 [(63, vb (decide (x1 > 0)))] [2, 1] ?_
     refine oS 63 h112 (fun h115 => ?_) (fun h116 => ?_)
     · refine oN 4 [(67, vi (w64 (x1 - 1))), (65, vi x0.A)] [63, 2, 1] ?_
       obtain ⟨t117, h118, h119⟩ := bS h115
       refine k0 (fun γ w hs => c_impl_within h118) ?_
       refine oN 2 [(70, vb t117)] [2, 1] ?_
       refine oS 70 h119 (fun h122 => ?_) (fun h123 => ?_)
       · refine oN 4 [(74, vi (w64 (x1 - 1))), (72, vi x0.B)] [70, 2, 1] ?_
         obtain ⟨t124, h125, h126⟩ := bS h122
         refine k0 (fun γ w hs => c_impl_within h125) ?_
         refine oN 2 [(77, vb t124)] [2, 1] ?_
         refine oS 77 h126 (fun h129 => ?_) (fun h130 => ?_)
         · refine oN 4 [(81, vi (w64 (x1 - 1))), (79, vi x0.C)] [77] ?_
           obtain ⟨t131, h132, h133⟩ := bS h129
           refine k0 (fun γ w hs => c_impl_within h132) ?_
           refine oN 2 [(4, vb t131)] [] ?_
           refine oe ?_
           obtain rfl := sI h133
           exact mt () [4] [] 2
         refine oN 7 [(4, vb false)] [] ?_
         refine oe ?_
         obtain rfl := sI h130
         exact mt () [4] [] 2
       refine oN 14 [(4, vb false)] [] ?_
       refine oe ?_
       obtain rfl := sI h123
       exact mt () [4] [] 2
     refine oN 21 [(4, vb false)] [] ?_
     refine oe ?_
     obtain rfl := sI h116
     exact mt () [4] [] 2
   refine oN 25 [(4, vb false)] [] ?_
   refine oe ?_
   obtain rfl := sI h113
   exact mt () [4] [] 2
 refine nt (qe ?_)
 obtain rfl := sI h110
 exact re [.bool p108]

theorem c_impl_FormulaOk {W : World} {x0 : List Node} {a0_0 : Option Addr} {c0_0 : Nat} {r : Bool} (h : impl_FormulaOk x0 = some r) (hv0_0 : SlView W x0 a0_0 c0_0) :
    Gives0 Tryz.prog 190 #[.slice a0_0 x0.length c0_0] W (.bool r) := by
 unfold impl_FormulaOk at h
 refine en Tryz.func190 Tryz.ntmps190 ?_
 refine qs (qr (oN 1 [] [0] ?_))
 refine oe (nt (qs (qs (qr (oN 3 [(7, vi 0), (6, vi (x0.length : Int)), (5, .v (.slice a0_0 x0.length c0_0))] [0] ?_)))))
 refine oe (nt ?_)
 obtain ⟨r24, hL25, h26⟩ := bS h
 obtain ⟨k27, hk28, h26⟩ := brkS h26
 refine JC_cutP (τ := (Unit) × (Unit)) (fun y => k27 y.1 = some r) (fun y32 => [(0, .v (.slice a0_0 x0.length c0_0))]) (fun y32 => []) (fun y32 => []) ?_ (fun y32 h33p => ?_)
 · refine qb (lp Unit hL25 (fun s21 y22 => [(7, vi s21), (6, vi (x0.length : Int)), (5, .v (.slice a0_0 x0.length c0_0)), (0, .v (.slice a0_0 x0.length c0_0))]) (fun s21 y22 => []) (fun s21 y22 => []) () [7, 6, 5, 0] [] 0 (fun s21 y22 t23 h29 hd30 => ?_))
   refine qs (qr (oN 1 [(8, vb (decide (s21 < (x0.length : Int))))] [7, 6, 5, 0] ?_))
   refine oe (nt (qs (cC h29 (fun h39 => ?_) (fun h40 => ?_))))
   · refine qk (nt (qs (qb (qs (qr (oN 1 [(9, vi s21)] [7, 6, 5, 0] ?_))))))
     obtain ⟨x41, hx42, h43⟩ := bS h39
     refine oi 6 (fun γ w hs => (hv0_0.kept hs.kept)) hx42 ?_
     refine ol 154 0 (vNode x41) (fun γ w hs => (hv0_0.kept hs.kept).flatq hx42) ?_
     refine oB 3 [(3, vi s21), (4, .p 0 0)] [7, 6, 5, 0] [(154, (eNode x41))] ?_
     refine oe (nt (qs (qr (oN 2 [(13, vi s21), (12, .v (vNode x41))] [7, 6, 5, 0] ?_))))
     obtain ⟨t44, h45, h46⟩ := bS h43
     refine k0 (fun γ w hs => c_impl_NodeOk h45) ?_
     refine oN 1 [(15, vb (!t44))] [7, 6, 5, 0] ?_
     refine oe (nt (cC h46 (fun h49 => ?_) (fun h50 => ?_)))
     · refine qs (qr (oN 1 [(2, vb false)] [] ?_))
       refine oe (nt (qe (br (nr (nr ?_)))))
       have h51 := leafR hd30 h49 h26
       refine br (nr (nr ?_))
       obtain rfl := sI h51
       exact re [.bool false]
     refine qk (bn (nt (qr (oN 2 [(7, vi (w64 (s21 + 1)))] [6, 5, 0] ?_))))
     exact oe (ct h50 () [7, 6, 5, 0] [] 0)
   refine qx (nx (nx (bh ?_)))
   have h52 := leafB hd30 h40 h26
   exact mp ((), ()) h52 [0] [] 0
 have h33 := (congrFun hk28 _).symm.trans h33p
 refine nt (qs (qr (oN 2 [(18, vi (x0.length : Int))] [] ?_)))
 obtain ⟨t34, h35, h36⟩ := bS h33
 refine k0 (fun γ w hs => c_impl_within h35) ?_
 refine oN 1 [(2, vb t34)] [] ?_
 refine oe (nt (qe ?_))
 obtain rfl := sI h36
 exact re [.bool t34]

theorem c_impl_RuleOk {W : World} {x0 : Rule} {a0_0 : Option Addr} {c0_0 : Nat} {r : Bool} (h : impl_RuleOk x0 = some r) (hv0_0 : SlView W x0.Nodes a0_0 c0_0) :
    Gives0 Tryz.prog 146 #[vRule x0 (a0_0, c0_0)] W (.bool r) := by
 unfold impl_RuleOk at h
 refine en Tryz.func146 Tryz.ntmps146 ?_
 refine qs (qr (oB 2 [(1, .p 0 0)] [] [(76, (eRule x0 (a0_0, c0_0)))] ?_))
 refine oe (nt (qs ?_))
 obtain ⟨p21, hE22, h23⟩ := bS h
 refine JC_cut (τ := Unit) (fun _ => [(2, vb p21)]) (fun _ => [(76, (eRule x0 (a0_0, c0_0)))]) (fun _ => []) ?_ (fun _ => ?_)
 · refine qr (oN 2 [(4, vi x0.Name)] [1] ?_)
   obtain ⟨t24, h25, h26⟩ := bS hE22
   refine k0 (fun γ w hs => c_impl_within h25) ?_
   refine oN 1 [(6, vb t24)] [1] ?_
   refine oS 6 h26 (fun h29 => ?_) (fun h30 => ?_)
   · refine oN 4 [(10, vi x0.To), (8, vi x0.From)] [6, 1] ?_
     obtain ⟨t31, h32, h33⟩ := bS h29
     refine k0 (fun γ w hs => c_impl_isSpan h32) ?_
     refine oN 2 [(13, vb t31)] [1] ?_
     refine oS 13 h33 (fun h36 => ?_) (fun h37 => ?_)
     · refine oN 2 [(15, vi x0.Joined)] [13, 1] ?_
       obtain ⟨t38, h39, h40⟩ := bS h36
       refine k0 (fun γ w hs => c_impl_within h39) ?_
       refine oN 2 [(18, vb t38)] [1] ?_
       refine oS 18 h40 (fun h43 => ?_) (fun h44 => ?_)
       · refine oN 2 [(20, vi x0.Rank)] [18, 1] ?_
         obtain ⟨t45, h46, h47⟩ := bS h43
         refine k0 (fun γ w hs => c_impl_within h46) ?_
         refine oN 2 [(23, vb t45)] [1] ?_
         refine oS 23 h47 (fun h50 => ?_) (fun h51 => ?_)
         · refine oN 2 [(25, vi x0.Mode)] [23, 1] ?_
           obtain ⟨t52, h53, h54⟩ := bS h50
           refine k0 (fun γ w hs => c_impl_within h53) ?_
           refine oN 2 [(28, vb t52)] [1] ?_
           refine oS 28 h54 (fun h57 => ?_) (fun h58 => ?_)
           · refine oN 2 [(30, .v (.slice a0_0 x0.Nodes.length c0_0))] [28] ?_
             obtain ⟨t59, h60, h61⟩ := bS h57
             refine k0 (fun γ w hs => c_impl_FormulaOk h60 (hv0_0.kept hs.kept)) ?_
             refine oN 2 [(2, vb t59)] [] ?_
             refine oe ?_
             obtain rfl := sI h61
             exact mt () [2] [] 1
           refine oN 5 [(2, vb false)] [] ?_
           refine oe ?_
           obtain rfl := sI h58
           exact mt () [2] [] 1
         refine oN 10 [(2, vb false)] [] ?_
         refine oe ?_
         obtain rfl := sI h51
         exact mt () [2] [] 1
       refine oN 15 [(2, vb false)] [] ?_
       refine oe ?_
       obtain rfl := sI h44
       exact mt () [2] [] 1
     refine oN 20 [(2, vb false)] [] ?_
     refine oe ?_
     obtain rfl := sI h37
     exact mt () [2] [] 1
   refine oN 27 [(2, vb false)] [] ?_
   refine oe ?_
   obtain rfl := sI h30
   exact mt () [2] [] 1
 refine nt (qe ?_)
 obtain rfl := sI h23
 exact re [.bool p21]

theorem c_impl_BookOk {W : World} {x0 : Book} {a0_0 : Option Addr} {c0_0 : Nat} {r : Bool} (h : impl_BookOk x0 = some r) (hv0_0 : SlView W x0.Rules a0_0 c0_0) :
    Gives0 Tryz.prog 96 #[vBook x0 (a0_0, c0_0)] W (.bool r) := by
 unfold impl_BookOk at h
 refine en Tryz.func96 Tryz.ntmps96 ?_
 refine qs (qr (oB 2 [(1, .p 0 0)] [] [(26, (eBook x0 (a0_0, c0_0)))] ?_))
 refine oe (nt (qs (qs (qr (oN 4 [(10, vi 0), (9, vi (x0.Rules.length : Int)), (8, .v (.slice a0_0 x0.Rules.length c0_0))] [1] ?_)))))
 refine oe (nt ?_)
 obtain ⟨r24, hL25, h26⟩ := bS h
 obtain ⟨k27, hk28, h26⟩ := brkS h26
 refine JC_cutP (τ := (Unit) × (Unit)) (fun y => k27 y.1 = some r) (fun y32 => [(1, .p 0 0)]) (fun y32 => [(26, (eBook x0 (a0_0, c0_0)))]) (fun y32 => []) ?_ (fun y32 h33p => ?_)
 · refine qb (lp Unit hL25 (fun s21 y22 => [(10, vi s21.1), (9, vi s21.2), (8, .v (.slice a0_0 x0.Rules.length c0_0)), (1, .p 0 0)]) (fun s21 y22 => [(26, (eBook x0 (a0_0, c0_0)))]) (fun s21 y22 => []) () [10, 9, 8, 1] [] 1 (fun s21 y22 t23 h29 hd30 => ?_))
   refine qs (qr (oN 1 [(11, vb (decide (s21.1 < s21.2)))] [10, 9, 8, 1] ?_))
   refine oe (nt (qs (cC h29 (fun h35 => ?_) (fun h36 => ?_))))
   · refine qk (nt (qs (qb (qs (qr (oN 1 [(12, vi s21.1)] [10, 9, 8, 1] ?_))))))
     obtain ⟨x37, hx38, h39⟩ := bS h35
     refine oi 7 (fun γ w hs => (hv0_0.kept hs.kept)) hx38 ?_
     obtain ⟨_, ⟨a40, c41, rfl, hv42⟩, hc43⟩ := SlView.at hv0_0 (idx_some hx38).2.2
     refine ol 76 0 (vRule x37 (a40, c41)) (fun γ w hs => ⟨(hv0_0.kept hs.kept).ne (idx_some hx38).2.2, hc43.kept hs.kept⟩) ?_
     refine oB 3 [(3, vi s21.1), (4, .p 1 0)] [10, 9, 8, 1] [(26, (eBook x0 (a0_0, c0_0))), (76, (eRule x37 (a40, c41)))] ?_
     refine oe (nt (qs (qs (qr (oN 1 [(15, .v (vRule x37 (a40, c41)))] [3, 4, 10, 9, 8, 1] ?_)))))
     obtain ⟨t44, h45, h46⟩ := bS h39
     refine k0 (fun γ w hs => c_impl_RuleOk h45 (hv42.kept hs.kept)) ?_
     refine oN 1 [(17, vb (!t44))] [3, 4, 10, 9, 8, 1] ?_
     refine oe (nt (cC h46 (fun h49 => ?_) (fun h50 => ?_)))
     · refine qs (qr (oN 1 [(2, vb false)] [] ?_))
       refine oe (nt (qe (nr (br (nr (nr ?_))))))
       have h51 := leafR hd30 h49 h26
       refine br (nr (nr ?_))
       obtain rfl := sI h51
       exact re [.bool false]
     refine qk (nt (qs (qr (oN 3 [(20, vi s21.1), (19, .v (.slice a0_0 x0.Rules.length c0_0))] [4, 10, 9, 8, 1] ?_))))
     obtain ⟨l52, hm53, h54⟩ := bS h50
     have hv55 := SlView.head hv0_0 hm53
     refine JO_head (α := Rule) rfl (by kernel_rfl) (a0 := a0_0) (n0 := x0.Rules.length) (c0 := c0_0) (hi := s21.1) (by kernel_rfl) hm53 (hv0_0).fit rfl ?_
     refine oN 2 [(23, vi 0), (22, vi (l52.length : Int))] [21, 4, 10, 9, 8, 1] ?_
     refine oe (nt ?_)
     obtain ⟨r59, hL60, h61⟩ := bS h54
     obtain ⟨k62, hk63, h61⟩ := brkS h61
     refine JC_cutP (τ := (Int × Int × Int × Int × Int × Int × Int × Int) × (Unit)) (fun y => k62 y.1 = some t23) (fun y67 => [(10, vi y67.1.1), (9, vi y67.1.2.1), (8, .v (.slice a0_0 x0.Rules.length c0_0)), (1, .p 0 0)]) (fun y67 => [(26, (eBook x0 (a0_0, c0_0))), (76, (eRule (Rule.mk y67.1.2.2.1 y67.1.2.2.2.1 y67.1.2.2.2.2.1 y67.1.2.2.2.2.2.1 y67.1.2.2.2.2.2.2.1 y67.1.2.2.2.2.2.2.2 x37.Nodes) (a40, c41)))]) (fun y67 => []) ?_ (fun y67 h68p => ?_)
     · refine qb (lp Unit hL60 (fun s56 y57 => [(23, vi s56), (22, vi (l52.length : Int)), (21, .v (.slice a0_0 l52.length c0_0)), (4, .p 1 0), (10, vi s21.1), (9, vi s21.2), (8, .v (.slice a0_0 x0.Rules.length c0_0)), (1, .p 0 0)]) (fun s56 y57 => [(26, (eBook x0 (a0_0, c0_0))), (76, (eRule x37 (a40, c41)))]) (fun s56 y57 => []) () [23, 22, 21, 4, 10, 9, 8, 1] [] 2 (fun s56 y57 t58 h64 hd65 => ?_))
       refine qs (qr (oN 1 [(24, vb (decide (s56 < (l52.length : Int))))] [23, 22, 21, 4, 10, 9, 8, 1] ?_))
       refine oe (nt (qs (cC h64 (fun h70 => ?_) (fun h71 => ?_))))
       · refine qk (nt (qs (qb (qs (qr ?_)))))
         obtain ⟨x72, hx73, h74⟩ := bS h70
         refine oi 7 (fun γ w hs => (hv55.kept hs.kept)) hx73 ?_
         obtain ⟨_, ⟨a75, c76, rfl, hv77⟩, hc78⟩ := SlView.at hv55 (idx_some hx73).2.2
         refine ol 76 0 (vRule x72 (a75, c76)) (fun γ w hs => ⟨(hv55.kept hs.kept).ne (idx_some hx73).2.2, hc78.kept hs.kept⟩) ?_
         refine oB 2 [(6, .p 2 0)] [23, 22, 21, 4, 10, 9, 8, 1] [(26, (eBook x0 (a0_0, c0_0))), (76, (eRule x37 (a40, c41))), (76, (eRule x72 (a75, c76)))] ?_
         refine oe (nt (qs ?_))
         obtain ⟨p79, hE80, h81⟩ := bS h74
         refine JC_cut (τ := Unit) (fun _ => [(1, .p 0 0), (4, .p 1 0), (8, .v (.slice a0_0 x0.Rules.length c0_0)), (9, vi s21.2), (10, vi s21.1), (21, .v (.slice a0_0 l52.length c0_0)), (22, vi (l52.length : Int)), (23, vi s56), (52, vb p79)]) (fun _ => [(26, (eBook x0 (a0_0, c0_0))), (76, (eRule x37 (a40, c41))), (76, (eRule x72 (a75, c76)))]) (fun _ => []) ?_ (fun _ => ?_)
         · refine qr (oN 6 [(32, vb (x72.Name == x37.Name))] [6, 23, 22, 21, 4, 10, 9, 8, 1] ?_)
           refine oS 32 hE80 (fun h83 => ?_) (fun h84 => ?_)
           · refine oN 7 [(39, vb (x72.Rank == x37.Rank))] [6, 23, 22, 21, 4, 10, 9, 8, 1] ?_
             refine oS 39 h83 (fun h86 => ?_) (fun h87 => ?_)
             · refine oN 7 [(46, vb (decide (x72.From < x37.To)))] [6, 23, 22, 21, 4, 10, 9, 8, 1] ?_
               refine oS 46 h86 (fun h89 => ?_) (fun h90 => ?_)
               · refine oN 6 [(52, vb (decide (x37.From < x72.To)))] [23, 22, 21, 4, 10, 9, 8, 1] ?_
                 refine oe ?_
                 obtain rfl := sI h89
                 exact mt () [1, 4, 8, 9, 10, 21, 22, 23, 52] [] 3
               refine oN 6 [(52, vb false)] [23, 22, 21, 4, 10, 9, 8, 1] ?_
               refine oe ?_
               obtain rfl := sI h90
               exact mt () [1, 4, 8, 9, 10, 21, 22, 23, 52] [] 3
             refine oN 13 [(52, vb false)] [23, 22, 21, 4, 10, 9, 8, 1] ?_
             refine oe ?_
             obtain rfl := sI h87
             exact mt () [1, 4, 8, 9, 10, 21, 22, 23, 52] [] 3
           refine oN 20 [(52, vb false)] [23, 22, 21, 4, 10, 9, 8, 1] ?_
           refine oe ?_
           obtain rfl := sI h84
           exact mt () [1, 4, 8, 9, 10, 21, 22, 23, 52] [] 3
         refine nt (cC h81 (fun h92 => ?_) (fun h93 => ?_))
         · refine qs (qr (oN 1 [(2, vb false)] [] ?_))
           refine oe (nt (qe (br (nr (nr ?_)))))
           have h94 := leafR hd65 h92 h61
           refine br (nr (br (nr (nr ?_))))
           have h95 := leafR hd30 h94 h26
           refine br (nr (nr ?_))
           obtain rfl := sI h95
           exact re [.bool false]
         refine qk (bn (nt (qr (oN 2 [(23, vi (w64 (s56 + 1)))] [1, 4, 8, 9, 10, 21, 22] ?_))))
         exact oe (ct h93 () [23, 22, 21, 4, 10, 9, 8, 1] [] 2)
       refine qx (nx (nx (bh ?_)))
       have h96 := leafB hd65 h71 h61
       exact mp ((s21.1, s21.2, x37.Name, x37.From, x37.To, x37.Joined, x37.Rank, x37.Mode), ()) h96 [10, 9, 8, 1] [] 2
     have h68 := (congrFun hk63 _).symm.trans h68p
     refine bn (nt (qr (oN 2 [(10, vi (w64 (y67.1.1 + 1)))] [9, 8, 1] ?_)))
     exact oe (ct h68 () [10, 9, 8, 1] [] 1)
   refine qx (nx (nx (bh ?_)))
   have h97 := leafB hd30 h36 h26
   exact mp ((), ()) h97 [1] [] 1
 have h33 := (congrFun hk28 _).symm.trans h33p
 refine nt (qs (qr (oN 5 [(2, vb (decide ((x0.Rules.length : Int) ≤ 20)))] [] ?_)))
 refine oe (nt (qe ?_))
 obtain rfl := sI h33
 exact re [.bool (decide ((x0.Rules.length : Int) ≤ 20))]

theorem c_impl_AddRule {W : World} {x0 : Book} {a0_0 : Option Addr} {c0_0 : Nat} {x1 : Rule} {a1_0 : Option Addr} {c1_0 : Nat} {r : Book × Bool} (h : impl_AddRule x0 x1 = some r) (hv0_0 : SlView W x0.Rules a0_0 c0_0) (hv1_0 : SlView W x1.Nodes a1_0 c1_0) :
    Gives Tryz.prog 71 #[vBook x0 (a0_0, c0_0), vRule x1 (a1_0, c1_0)] W (fun y : AC => .tuple #[vBook r.1 y, .bool r.2]) (fun y => [SlRes 76 r.1.Rules y.1 y.2]) := by
 unfold impl_AddRule at h
 refine en Tryz.func71 Tryz.ntmps71 ?_
 refine qs (qr (oB 4 [(4, .p 2 0), (3, .p 1 0), (2, .p 0 0)] [] [(26, (eBook x0 (a0_0, c0_0))), (76, (eRule x1 (a1_0, c1_0))), (26, [.slice none 0 0])] ?_))
 refine oe (nt (qs (qr (oN 1 [(7, .v (vBook x0 (a0_0, c0_0)))] [4, 3, 2] ?_))))
 obtain ⟨t21, h22, h23⟩ := bS h
 refine k1 (fun γ w hs => c_impl_copyBook h22 (hv0_0.kept hs.kept)) (fun y24 => ?_)
 refine oB 2 [(6, .p 3 0)] [4, 3, 2] [(26, (eBook x0 (a0_0, c0_0))), (76, (eRule x1 (a1_0, c1_0))), (26, [.slice none 0 0]), (26, (eBook t21 y24))] ?_
 refine oe (nt (qs (qr (oN 2 [(10, .v (.slice a1_0 x1.Nodes.length c1_0))] [6, 4, 3, 2] ?_))))
 obtain ⟨t25, h26, h27⟩ := bS h23
 refine k1 (fun γ w hs => c_impl_copyNodes h26 (hv1_0.kept hs.kept)) (fun y28 => ?_)
 refine oB 2 [] [6, 4, 3, 2] [(26, (eBook x0 (a0_0, c0_0))), (76, (eRule (Rule.mk x1.Name x1.From x1.To x1.Joined x1.Rank x1.Mode t25) y28)), (26, [.slice none 0 0]), (26, (eBook t21 y24))] ?_
 refine oe (nt (qs (qr (oN 3 [(15, .v (vRule (Rule.mk x1.Name x1.From x1.To x1.Joined x1.Rank x1.Mode t25) y28)), (14, .v (.slice y24.1 t21.Rules.length y24.2))] [6, 4, 2] ?_))))
 refine ob [SlRes 154 t25 y28.1 y28.2] [SlRes 76 t21.Rules y24.1 y24.2] 76 1 [.int .i64 x1.Name, .int .i64 x1.From, .int .i64 x1.To, .int .i64 x1.Joined, .int .i64 x1.Rank, .int .i64 x1.Mode, .slice y28.1 t25.length y28.2] ([Rule.mk x1.Name x1.From x1.To x1.Joined x1.Rank x1.Mode t25] : List Rule) (own_single (by rintro w Fs ⟨G0, _, rfl, h0, rfl⟩; exact ⟨154, y28.1, y28.2, G0, by simp, rfl, h0⟩)) (fun y29 => ?_)
 refine or_ [1, 0] ?_
 obtain ⟨l32, hm33, h34⟩ := bS h27
 refine JO_appendR (α := Rule) rfl (by kernel_rfl) (t := 24) (e := 76) (a1 := y24.1) (a2 := y29.1) (c1 := y24.2) (c2 := y29.2) (l1 := t21.Rules) (l2 := ([Rule.mk x1.Name x1.From x1.To x1.Joined x1.Rank x1.Mode t25] : List Rule)) (by kernel_rfl) (i := Tryz.t76) (by kernel_rfl) (z := (vRule (Rule.mk 0 0 0 0 0 0 ([] : List Node)) (none, 0))) (by kernel_rfl) (by kernel_rfl) (by kernel_rfl) (by kernel_rfl) (Rr := []) rfl hm33 _ (fun _ => rfl) (fun y31 => ?_)
 refine oB 2 [] [6, 4, 2] [(26, (eBook x0 (a0_0, c0_0))), (76, (eRule (Rule.mk x1.Name x1.From x1.To x1.Joined x1.Rank x1.Mode t25) y28)), (26, [.slice none 0 0]), (26, (eBook (Book.mk l32) y31))] ?_
 refine oe (nt (qs (qs ?_)))
 obtain ⟨p35, hE36, h37⟩ := bS h34
 refine JC_cut (τ := Unit) (fun _ => [(2, .p 0 0), (4, .p 2 0), (6, .p 3 0), (26, vb p35)]) (fun _ => [(26, (eBook x0 (a0_0, c0_0))), (76, (eRule (Rule.mk x1.Name x1.From x1.To x1.Joined x1.Rank x1.Mode t25) y28)), (26, [.slice none 0 0]), (26, (eBook (Book.mk l32) y31))]) (fun _ => [SlRes 76 l32 y31.1 y31.2]) ?_ (fun _ => ?_)
 · refine qr (oN 1 [(19, .v (vBook x0 (a0_0, c0_0)))] [6, 4, 2] ?_)
   obtain ⟨t38, h39, h40⟩ := bS hE36
   refine k0 (fun γ w hs => c_impl_BookOk h39 (hv0_0.kept hs.kept)) ?_
   refine oN 2 [(22, vb (!t38))] [6, 4, 2] ?_
   refine oS 22 h40 (fun h43 => ?_) (fun h44 => ?_)
   · refine oN 4 [(26, vb true)] [6, 4, 2] ?_
     refine oe ?_
     obtain rfl := sI h43
     exact mt () [2, 4, 6, 26] [0] 4
   refine oN 1 [(23, .v (vBook (Book.mk l32) y31))] [22, 6, 4, 2] ?_
   obtain ⟨t45, h46, h47⟩ := bS h44
   refine k0 (fun γ w hs => c_impl_BookOk h46 (hs.view 0 rfl)) ?_
   refine oN 2 [(26, vb (!t45))] [6, 4, 2] ?_
   refine oe ?_
   obtain rfl := sI h47
   exact mt () [2, 4, 6, 26] [0] 4
 refine nt (cC h37 (fun h54 => ?_) (fun h55 => ?_))
 · refine qs (qr (oN 1 [(27, .v (vBook x0 (a0_0, c0_0)))] [4] ?_))
   obtain ⟨t56, h57, h58⟩ := bS h54
   refine k1 (fun γ w hs => c_impl_copyBook h57 (hv0_0.kept hs.kept)) (fun y59 => ?_)
   refine oB 2 [(5, vb false)] [4] [(26, (eBook x0 (a0_0, c0_0))), (76, (eRule (Rule.mk x1.Name x1.From x1.To x1.Joined x1.Rank x1.Mode t25) y28)), (26, (eBook t56 y59)), (26, (eBook (Book.mk l32) y31))] ?_
   refine oe (nt (qe (nr (rt [vBook t56 y59, .bool false] (fun γ w hs => ?_)))))
   rw [← sI h58]
   exact ⟨y59, rfl, hs.kept.toBelow, (hs.takeR (is := [0]) rfl).fresh⟩
 refine qk (nt (qs (qr (oB 3 [(5, vb true)] [4] [(26, (eBook x0 (a0_0, c0_0))), (76, (eRule (Rule.mk x1.Name x1.From x1.To x1.Joined x1.Rank x1.Mode t25) y28)), (26, (eBook (Book.mk l32) y31)), (26, (eBook (Book.mk l32) y31))] ?_))))
 refine oe (nt (qe (rt [vBook (Book.mk l32) y31, .bool true] (fun γ w hs => ?_))))
 rw [← sI h55]
 exact ⟨y31, rfl, hs.kept.toBelow, (hs.takeR (is := [0]) rfl).fresh⟩

theorem c_impl_WithRule {W : World} {x0 : Case} {b0 : AC × AC × AC × AC × AC} {x1 : Rule} {a1_0 : Option Addr} {c1_0 : Nat} {r : Case × Bool} (h : impl_WithRule x0 x1 = some r) (hv0_0 : SlView W x0.Book.Rules b0.1.1 b0.1.2) (hv0_1 : SlView W x0.Store.Facts b0.2.1.1 b0.2.1.2) (hv0_2 : SlView W x0.Series.Points b0.2.2.1.1 b0.2.2.1.2) (hv0_3 : SlView W x0.Member.Spells b0.2.2.2.1.1 b0.2.2.2.1.2) (hv0_4 : SlView W x0.Member.Events b0.2.2.2.2.1 b0.2.2.2.2.2) (hv1_0 : SlView W x1.Nodes a1_0 c1_0) :
    Gives Tryz.prog 32 #[vCase x0 b0, vRule x1 (a1_0, c1_0)] W (fun y : AC × AC × AC × AC × AC => .tuple #[vCase r.1 y, .bool r.2]) (fun y => [SlRes 76 r.1.Book.Rules y.1.1 y.1.2, SlRes 47 r.1.Store.Facts y.2.1.1 y.2.1.2, SlRes 52 r.1.Series.Points y.2.2.1.1 y.2.2.1.2, SlRes 156 r.1.Member.Spells y.2.2.2.1.1 y.2.2.2.1.2, SlRes 158 r.1.Member.Events y.2.2.2.2.1 y.2.2.2.2.2]) := by
 unfold impl_WithRule at h
 refine en Tryz.func32 Tryz.ntmps32 ?_
 refine qs (qr (oB 4 [(4, .p 2 0), (3, .p 1 0), (2, .p 0 0)] [] [(38, (eCase x0 b0)), (76, (eRule x1 (a1_0, c1_0))), (38, [.slice none 0 0, .slice none 0 0, .slice none 0 0, .int .i64 0, .int .i64 0, .slice none 0 0, .slice none 0 0])] ?_))
 refine oe (nt (qs (qr (oN 1 [(9, .v (vCase x0 b0))] [4, 3, 2] ?_))))
 obtain ⟨t21, h22, h23⟩ := bS h
 refine k1 (fun γ w hs => c_impl_copyCase (b0 := b0) h22 (hv0_0.kept hs.kept) (hv0_1.kept hs.kept) (hv0_2.kept hs.kept) (hv0_3.kept hs.kept) (hv0_4.kept hs.kept)) (fun y24 => ?_)
 refine oB 2 [(6, .p 3 0)] [4, 3, 2] [(38, (eCase x0 b0)), (76, (eRule x1 (a1_0, c1_0))), (38, [.slice none 0 0, .slice none 0 0, .slice none 0 0, .int .i64 0, .int .i64 0, .slice none 0 0, .slice none 0 0]), (38, (eCase t21 y24))] ?_
 refine oe (nt (qs (qr (oN 3 [(14, .v (vRule x1 (a1_0, c1_0))), (13, .v (vBook x0.Book b0.1))] [6, 4] ?_))))
 obtain ⟨t25, h26, h27⟩ := bS h23
 refine k1 (fun γ w hs => c_impl_AddRule h26 (hv0_0.kept hs.kept) (hv1_0.kept hs.kept)) (fun y28 => ?_)
 refine oB 6 [(8, vb t25.2), (7, .p 4 0)] [6, 4] [(38, (eCase x0 b0)), (76, (eRule x1 (a1_0, c1_0))), (38, [.slice none 0 0, .slice none 0 0, .slice none 0 0, .int .i64 0, .int .i64 0, .slice none 0 0, .slice none 0 0]), (38, (eCase t21 y24)), (26, (eBook t25.1 y28))] ?_
 refine oe (nt (qs (qr (oB 3 [] [8, 6, 4] [(38, (eCase x0 b0)), (76, (eRule x1 (a1_0, c1_0))), (38, [.slice none 0 0, .slice none 0 0, .slice none 0 0, .int .i64 0, .int .i64 0, .slice none 0 0, .slice none 0 0]), (38, (eCase (Case.mk t25.1 t21.Store t21.Series t21.Member) (y28, y24.2.1, y24.2.2.1, y24.2.2.2.1, y24.2.2.2.2))), (26, (eBook t25.1 y28))] ?_))))
 refine oe (nt (qs (qr (oB 4 [(5, vb t25.2)] [4] [(38, (eCase x0 b0)), (76, (eRule x1 (a1_0, c1_0))), (38, (eCase (Case.mk t25.1 t21.Store t21.Series t21.Member) (y28, y24.2.1, y24.2.2.1, y24.2.2.2.1, y24.2.2.2.2))), (38, (eCase (Case.mk t25.1 t21.Store t21.Series t21.Member) (y28, y24.2.1, y24.2.2.1, y24.2.2.2.1, y24.2.2.2.2))), (26, (eBook t25.1 y28))] ?_))))
 refine oe (nt (qe (rt [vCase (Case.mk t25.1 t21.Store t21.Series t21.Member) (y28, y24.2.1, y24.2.2.1, y24.2.2.2.1, y24.2.2.2.2), .bool t25.2] (fun γ w hs => ?_))))
 rw [← sI h27]
 exact ⟨(y28, y24.2.1, y24.2.2.1, y24.2.2.2.1, y24.2.2.2.2), rfl, hs.kept.toBelow, (hs.takeR (is := [0, 1, 1, 1, 1]) rfl).fresh⟩

theorem c_impl_MonthOk {W : World} {x0 : Int} {r : Bool} (h : impl_MonthOk x0 = some r)  :
    Gives0 Tryz.prog 56 #[.int .i64 x0] W (.bool r) := by
 unfold impl_MonthOk at h
 refine en Tryz.func56 Tryz.ntmps56 ?_
 refine qs (qr (oN 1 [] [0] ?_))
 refine oe (nt (qs (qr (oN 1 [(3, vi x0)] [] ?_))))
 obtain ⟨t21, h22, h23⟩ := bS h
 refine k0 (fun γ w hs => c_impl_within h22) ?_
 refine oN 1 [(2, vb t21)] [] ?_
 refine oe (nt (qe ?_))
 obtain rfl := sI h23
 exact re [.bool t21]

theorem c_impl_FactOk {W : World} {x0 : Fact} {r : Bool} (h : impl_FactOk x0 = some r)  :
    Gives0 Tryz.prog 145 #[vFact x0] W (.bool r) := by
 unfold impl_FactOk at h
 refine en Tryz.func145 Tryz.ntmps145 ?_
 refine qs (qr (oB 2 [(1, .p 0 0)] [] [(47, (eFact x0))] ?_))
 refine oe (nt (qs ?_))
 obtain ⟨p21, hE22, h23⟩ := bS h
 refine JC_cut (τ := Unit) (fun _ => [(2, vb p21)]) (fun _ => [(47, (eFact x0))]) (fun _ => []) ?_ (fun _ => ?_)
 · refine qr (oN 2 [(4, vi x0.Key)] [1] ?_)
   obtain ⟨t24, h25, h26⟩ := bS hE22
   refine k0 (fun γ w hs => c_impl_within h25) ?_
   refine oN 1 [(6, vb t24)] [1] ?_
   refine oS 6 h26 (fun h29 => ?_) (fun h30 => ?_)
   · refine oN 4 [(10, vi x0.To), (8, vi x0.From)] [6, 1] ?_
     obtain ⟨t31, h32, h33⟩ := bS h29
     refine k0 (fun γ w hs => c_impl_isSpan h32) ?_
     refine oN 2 [(13, vb t31)] [1] ?_
     refine oS 13 h33 (fun h36 => ?_) (fun h37 => ?_)
     · refine oN 2 [(15, vi x0.Known)] [13, 1] ?_
       obtain ⟨t38, h39, h40⟩ := bS h36
       refine k0 (fun γ w hs => c_impl_MonthOk h39) ?_
       refine oN 2 [(18, vb t38)] [1] ?_
       refine oS 18 h40 (fun h43 => ?_) (fun h44 => ?_)
       · refine oN 2 [(20, vi x0.Value)] [18] ?_
         obtain ⟨t45, h46, h47⟩ := bS h43
         refine k0 (fun γ w hs => c_impl_within h46) ?_
         refine oN 2 [(2, vb t45)] [] ?_
         refine oe ?_
         obtain rfl := sI h47
         exact mt () [2] [] 1
       refine oN 5 [(2, vb false)] [] ?_
       refine oe ?_
       obtain rfl := sI h44
       exact mt () [2] [] 1
     refine oN 10 [(2, vb false)] [] ?_
     refine oe ?_
     obtain rfl := sI h37
     exact mt () [2] [] 1
   refine oN 17 [(2, vb false)] [] ?_
   refine oe ?_
   obtain rfl := sI h30
   exact mt () [2] [] 1
 refine nt (qe ?_)
 obtain rfl := sI h23
 exact re [.bool p21]

theorem c_impl_StoreOk {W : World} {x0 : Store} {a0_0 : Option Addr} {c0_0 : Nat} {r : Bool} (h : impl_StoreOk x0 = some r) (hv0_0 : SlView W x0.Facts a0_0 c0_0) :
    Gives0 Tryz.prog 91 #[vStore x0 (a0_0, c0_0)] W (.bool r) := by
 unfold impl_StoreOk at h
 refine en Tryz.func91 Tryz.ntmps91 ?_
 refine qs (qr (oB 2 [(1, .p 0 0)] [] [(29, (eStore x0 (a0_0, c0_0)))] ?_))
 refine oe (nt (qs (qs (qr (oN 4 [(8, vi 0), (7, vi (x0.Facts.length : Int)), (6, .v (.slice a0_0 x0.Facts.length c0_0))] [1] ?_)))))
 refine oe (nt ?_)
 obtain ⟨r24, hL25, h26⟩ := bS h
 obtain ⟨k27, hk28, h26⟩ := brkS h26
 refine JC_cutP (τ := (Unit) × (Unit)) (fun y => k27 y.1 = some r) (fun y32 => [(1, .p 0 0)]) (fun y32 => [(29, (eStore x0 (a0_0, c0_0)))]) (fun y32 => []) ?_ (fun y32 h33p => ?_)
 · refine qb (lp Unit hL25 (fun s21 y22 => [(8, vi s21), (7, vi (x0.Facts.length : Int)), (6, .v (.slice a0_0 x0.Facts.length c0_0)), (1, .p 0 0)]) (fun s21 y22 => [(29, (eStore x0 (a0_0, c0_0)))]) (fun s21 y22 => []) () [8, 7, 6, 1] [] 1 (fun s21 y22 t23 h29 hd30 => ?_))
   refine qs (qr (oN 1 [(9, vb (decide (s21 < (x0.Facts.length : Int))))] [8, 7, 6, 1] ?_))
   refine oe (nt (qs (cC h29 (fun h35 => ?_) (fun h36 => ?_))))
   · refine qk (nt (qs (qb (qs (qr (oN 1 [(10, vi s21)] [8, 7, 6, 1] ?_))))))
     obtain ⟨x37, hx38, h39⟩ := bS h35
     refine oi 5 (fun γ w hs => (hv0_0.kept hs.kept)) hx38 ?_
     refine ol 47 0 (vFact x37) (fun γ w hs => (hv0_0.kept hs.kept).flatq hx38) ?_
     refine oB 3 [(3, vi s21), (4, .p 1 0)] [8, 7, 6, 1] [(29, (eStore x0 (a0_0, c0_0))), (47, (eFact x37))] ?_
     refine oe (nt (qs ?_))
     obtain ⟨p40, hE41, h42⟩ := bS h39
     refine JC_cut (τ := Unit) (fun _ => [(1, .p 0 0), (6, .v (.slice a0_0 x0.Facts.length c0_0)), (7, vi (x0.Facts.length : Int)), (8, vi s21), (31, vb p40)]) (fun _ => [(29, (eStore x0 (a0_0, c0_0))), (47, (eFact x37))]) (fun _ => []) ?_ (fun _ => ?_)
     · refine JC_quiet (by kernel_rfl) (by kernel_rfl) ?_
       refine qN 1 [(13, .v (vFact x37))] [3, 4, 8, 7, 6, 1] ?_
       obtain ⟨t43, h44, h45⟩ := bS hE41
       refine q0 (fun γ w hs => c_impl_FactOk h44) ?_
       refine qN 2 [(16, vb (!t43))] [3, 4, 8, 7, 6, 1] ?_
       refine qS 16 h45 (fun h48 => ?_) (fun h49 => ?_)
       · refine qN 15 [(31, vb true)] [8, 7, 6, 1] ?_
         refine qz ?_
         obtain rfl := sI h48
         exact mt () [1, 6, 7, 8, 31] [] 2
       refine qN 3 [(19, vb (decide (s21 > 0)))] [16, 3, 4, 8, 7, 6, 1] ?_
       refine qS 19 h49 (fun h51 => ?_) (fun h52 => ?_)
       · refine qN 4 [(23, vi (w64 (s21 - 1))), (21, .v (.slice a0_0 x0.Facts.length c0_0))] [19, 16, 4, 8, 7, 6, 1] ?_
         obtain ⟨x53, hx54, h55⟩ := bS h51
         refine qi 5 (fun γ w hs => (hv0_0.kept hs.kept)) hx54 ?_
         refine qN 1 [(25, .q a0_0 (Int.toNat (w64 (s21 - 1)) * 5 + 3))] [19, 16, 4, 8, 7, 6, 1] ?_
         refine ql 3 3 (.int .i64 x53.Known) (fun γ w hs => (hv0_0.kept hs.kept).flatq hx54) ?_
         refine qN 5 [(31, vb (decide (x53.Known > x37.Known)))] [8, 7, 6, 1] ?_
         refine qz ?_
         obtain rfl := sI h55
         exact mt () [1, 6, 7, 8, 31] [] 2
       refine qN 12 [(31, vb false)] [8, 7, 6, 1] ?_
       refine qz ?_
       obtain rfl := sI h52
       exact mt () [1, 6, 7, 8, 31] [] 2
     refine nt (cC h42 (fun h57 => ?_) (fun h58 => ?_))
     · refine qs (qr (oN 1 [(2, vb false)] [] ?_))
       refine oe (nt (qe (br (nr (nr ?_)))))
       have h59 := leafR hd30 h57 h26
       refine br (nr (nr ?_))
       obtain rfl := sI h59
       exact re [.bool false]
     refine qk (bn (nt (qr (oN 2 [(8, vi (w64 (s21 + 1)))] [1, 6, 7] ?_))))
     exact oe (ct h58 () [8, 7, 6, 1] [] 1)
   refine qx (nx (nx (bh ?_)))
   have h60 := leafB hd30 h36 h26
   exact mp ((), ()) h60 [1] [] 1
 have h33 := (congrFun hk28 _).symm.trans h33p
 refine nt (qs (qr (oN 5 [(2, vb (decide ((x0.Facts.length : Int) ≤ 200)))] [] ?_)))
 refine oe (nt (qe ?_))
 obtain rfl := sI h33
 exact re [.bool (decide ((x0.Facts.length : Int) ≤ 200))]

theorem c_impl_SeriesOk {W : World} {x0 : Series} {a0_0 : Option Addr} {c0_0 : Nat} {r : Bool} (h : impl_SeriesOk x0 = some r) (hv0_0 : SlView W x0.Points a0_0 c0_0) :
    Gives0 Tryz.prog 94 #[vSeries x0 (a0_0, c0_0)] W (.bool r) := by
 unfold impl_SeriesOk at h
 refine en Tryz.func94 Tryz.ntmps94 ?_
 refine qs (qr (oB 2 [(1, .p 0 0)] [] [(32, (eSeries x0 (a0_0, c0_0)))] ?_))
 refine oe (nt (qs (qs (qr (oN 4 [(8, vi 0), (7, vi (x0.Points.length : Int)), (6, .v (.slice a0_0 x0.Points.length c0_0))] [1] ?_)))))
 refine oe (nt ?_)
 obtain ⟨r24, hL25, h26⟩ := bS h
 obtain ⟨k27, hk28, h26⟩ := brkS h26
 refine JC_cutP (τ := (Unit) × (Unit)) (fun y => k27 y.1 = some r) (fun y32 => [(1, .p 0 0)]) (fun y32 => [(32, (eSeries x0 (a0_0, c0_0)))]) (fun y32 => []) ?_ (fun y32 h33p => ?_)
 · refine qb (lp Unit hL25 (fun s21 y22 => [(8, vi s21), (7, vi (x0.Points.length : Int)), (6, .v (.slice a0_0 x0.Points.length c0_0)), (1, .p 0 0)]) (fun s21 y22 => [(32, (eSeries x0 (a0_0, c0_0)))]) (fun s21 y22 => []) () [8, 7, 6, 1] [] 1 (fun s21 y22 t23 h29 hd30 => ?_))
   refine qs (qr (oN 1 [(9, vb (decide (s21 < (x0.Points.length : Int))))] [8, 7, 6, 1] ?_))
   refine oe (nt (qs (cC h29 (fun h35 => ?_) (fun h36 => ?_))))
   · refine qk (nt (qs (qb (qs (qr (oN 1 [(10, vi s21)] [8, 7, 6, 1] ?_))))))
     obtain ⟨x37, hx38, h39⟩ := bS h35
     refine oi 3 (fun γ w hs => (hv0_0.kept hs.kept)) hx38 ?_
     refine ol 52 0 (vPoint x37) (fun γ w hs => (hv0_0.kept hs.kept).flatq hx38) ?_
     refine oB 3 [(3, vi s21), (4, .p 1 0)] [8, 7, 6, 1] [(32, (eSeries x0 (a0_0, c0_0))), (52, (ePoint x37))] ?_
     refine oe (nt (qs ?_))
     obtain ⟨p40, hE41, h42⟩ := bS h39
     refine JC_cut (τ := Unit) (fun _ => [(1, .p 0 0), (6, .v (.slice a0_0 x0.Points.length c0_0)), (7, vi (x0.Points.length : Int)), (8, vi s21), (51, vb p40)]) (fun _ => [(32, (eSeries x0 (a0_0, c0_0))), (52, (ePoint x37))]) (fun _ => []) ?_ (fun _ => ?_)
     · refine JC_quiet (by kernel_rfl) (by kernel_rfl) ?_
       refine qN 2 [(14, vi x37.Month)] [3, 4, 8, 7, 6, 1] ?_
       obtain ⟨t43, h44, h45⟩ := bS hE41
       refine q0 (fun γ w hs => c_impl_MonthOk h44) ?_
       refine qN 2 [(17, vb (!t43))] [3, 4, 8, 7, 6, 1] ?_
       refine qS 17 h45 (fun h48 => ?_) (fun h49 => ?_)
       · refine qN 34 [(51, vb true)] [8, 7, 6, 1] ?_
         refine qz ?_
         obtain rfl := sI h48
         exact mt () [1, 6, 7, 8, 51] [] 2
       refine qN 2 [(19, vi x37.Known)] [17, 3, 4, 8, 7, 6, 1] ?_
       obtain ⟨t50, h51, h52⟩ := bS h49
       refine q0 (fun γ w hs => c_impl_MonthOk h51) ?_
       refine qN 3 [(23, vb (!t50))] [3, 4, 8, 7, 6, 1] ?_
       refine qS 23 h52 (fun h55 => ?_) (fun h56 => ?_)
       · refine qN 28 [(51, vb true)] [8, 7, 6, 1] ?_
         refine qz ?_
         obtain rfl := sI h55
         exact mt () [1, 6, 7, 8, 51] [] 2
       refine qN 7 [(30, vb (decide (x37.Known < x37.Month)))] [3, 4, 8, 7, 6, 1] ?_
       refine qS 30 h56 (fun h58 => ?_) (fun h59 => ?_)
       · refine qN 21 [(51, vb true)] [8, 7, 6, 1] ?_
         refine qz ?_
         obtain rfl := sI h58
         exact mt () [1, 6, 7, 8, 51] [] 2
       refine qN 2 [(32, vi x37.Value)] [30, 3, 4, 8, 7, 6, 1] ?_
       obtain ⟨t60, h61, h62⟩ := bS h59
       refine q0 (fun γ w hs => c_impl_within h61) ?_
       refine qN 3 [(36, vb (!t60))] [3, 4, 8, 7, 6, 1] ?_
       refine qS 36 h62 (fun h65 => ?_) (fun h66 => ?_)
       · refine qN 15 [(51, vb true)] [8, 7, 6, 1] ?_
         refine qz ?_
         obtain rfl := sI h65
         exact mt () [1, 6, 7, 8, 51] [] 2
       refine qN 3 [(39, vb (decide (s21 > 0)))] [36, 3, 4, 8, 7, 6, 1] ?_
       refine qS 39 h66 (fun h68 => ?_) (fun h69 => ?_)
       · refine qN 4 [(43, vi (w64 (s21 - 1))), (41, .v (.slice a0_0 x0.Points.length c0_0))] [39, 36, 4, 8, 7, 6, 1] ?_
         obtain ⟨x70, hx71, h72⟩ := bS h68
         refine qi 3 (fun γ w hs => (hv0_0.kept hs.kept)) hx71 ?_
         refine qN 1 [(45, .q a0_0 (Int.toNat (w64 (s21 - 1)) * 3 + 1))] [39, 36, 4, 8, 7, 6, 1] ?_
         refine ql 3 1 (.int .i64 x70.Known) (fun γ w hs => (hv0_0.kept hs.kept).flatq hx71) ?_
         refine qN 5 [(51, vb (decide (x70.Known > x37.Known)))] [8, 7, 6, 1] ?_
         refine qz ?_
         obtain rfl := sI h72
         exact mt () [1, 6, 7, 8, 51] [] 2
       refine qN 12 [(51, vb false)] [8, 7, 6, 1] ?_
       refine qz ?_
       obtain rfl := sI h69
       exact mt () [1, 6, 7, 8, 51] [] 2
     refine nt (cC h42 (fun h74 => ?_) (fun h75 => ?_))
     · refine qs (qr (oN 1 [(2, vb false)] [] ?_))
       refine oe (nt (qe (br (nr (nr ?_)))))
       have h76 := leafR hd30 h74 h26
       refine br (nr (nr ?_))
       obtain rfl := sI h76
       exact re [.bool false]
     refine qk (bn (nt (qr (oN 2 [(8, vi (w64 (s21 + 1)))] [1, 6, 7] ?_))))
     exact oe (ct h75 () [8, 7, 6, 1] [] 1)
   refine qx (nx (nx (bh ?_)))
   have h77 := leafB hd30 h36 h26
   exact mp ((), ()) h77 [1] [] 1
 have h33 := (congrFun hk28 _).symm.trans h33p
 refine nt (qs (qr (oN 5 [(2, vb (decide ((x0.Points.length : Int) ≤ 200)))] [] ?_)))
 refine oe (nt (qe ?_))
 obtain rfl := sI h33
 exact re [.bool (decide ((x0.Points.length : Int) ≤ 200))]

theorem c_impl_SpellsOk {W : World} {x0 : List Spell} {a0_0 : Option Addr} {c0_0 : Nat} {r : Bool} (h : impl_SpellsOk x0 = some r) (hv0_0 : SlView W x0 a0_0 c0_0) :
    Gives0 Tryz.prog 147 #[.slice a0_0 x0.length c0_0] W (.bool r) := by
 unfold impl_SpellsOk at h
 refine en Tryz.func147 Tryz.ntmps147 ?_
 refine qs (qr (oN 1 [] [0] ?_))
 refine oe (nt (qs (qs (qr (oN 3 [(7, vi 0), (6, vi (x0.length : Int)), (5, .v (.slice a0_0 x0.length c0_0))] [0] ?_)))))
 refine oe (nt ?_)
 obtain ⟨r24, hL25, h26⟩ := bS h
 obtain ⟨k27, hk28, h26⟩ := brkS h26
 refine JC_cutP (τ := (Unit) × (Unit)) (fun y => k27 y.1 = some r) (fun y32 => [(0, .v (.slice a0_0 x0.length c0_0))]) (fun y32 => []) (fun y32 => []) ?_ (fun y32 h33p => ?_)
 · refine qb (lp Unit hL25 (fun s21 y22 => [(7, vi s21), (6, vi (x0.length : Int)), (5, .v (.slice a0_0 x0.length c0_0)), (0, .v (.slice a0_0 x0.length c0_0))]) (fun s21 y22 => []) (fun s21 y22 => []) () [7, 6, 5, 0] [] 0 (fun s21 y22 t23 h29 hd30 => ?_))
   refine qs (qr (oN 1 [(8, vb (decide (s21 < (x0.length : Int))))] [7, 6, 5, 0] ?_))
   refine oe (nt (qs (cC h29 (fun h35 => ?_) (fun h36 => ?_))))
   · refine qk (nt (qs (qb (qs (qr (oN 1 [(9, vi s21)] [7, 6, 5, 0] ?_))))))
     obtain ⟨x37, hx38, h39⟩ := bS h35
     refine oi 4 (fun γ w hs => (hv0_0.kept hs.kept)) hx38 ?_
     refine ol 156 0 (vSpell x37) (fun γ w hs => (hv0_0.kept hs.kept).flatq hx38) ?_
     refine oB 3 [(3, vi s21), (4, .p 0 0)] [7, 6, 5, 0] [(156, (eSpell x37))] ?_
     refine oe (nt (qs ?_))
     obtain ⟨p40, hE41, h42⟩ := bS h39
     refine JC_cut (τ := Unit) (fun _ => [(0, .v (.slice a0_0 x0.length c0_0)), (5, .v (.slice a0_0 x0.length c0_0)), (6, vi (x0.length : Int)), (7, vi s21), (38, vb p40)]) (fun _ => [(156, (eSpell x37))]) (fun _ => []) ?_ (fun _ => ?_)
     · refine JC_quiet (by kernel_rfl) (by kernel_rfl) ?_
       refine qN 4 [(15, vi x37.To), (13, vi x37.From)] [3, 4, 7, 6, 5, 0] ?_
       obtain ⟨t43, h44, h45⟩ := bS hE41
       refine q0 (fun γ w hs => c_impl_isSpan h44) ?_
       refine qN 2 [(18, vb (!t43))] [3, 4, 7, 6, 5, 0] ?_
       refine qS 18 h45 (fun h48 => ?_) (fun h49 => ?_)
       · refine qN 20 [(38, vb true)] [7, 6, 5, 0] ?_
         refine qz ?_
         obtain rfl := sI h48
         exact mt () [0, 5, 6, 7, 38] [] 1
       refine qN 2 [(20, vi x37.Percent)] [18, 3, 4, 7, 6, 5, 0] ?_
       obtain ⟨t50, h51, h52⟩ := bS h49
       refine q0 (fun γ w hs => c_impl_within h51) ?_
       refine qN 3 [(24, vb (!t50))] [3, 4, 7, 6, 5, 0] ?_
       refine qS 24 h52 (fun h55 => ?_) (fun h56 => ?_)
       · refine qN 14 [(38, vb true)] [7, 6, 5, 0] ?_
         refine qz ?_
         obtain rfl := sI h55
         exact mt () [0, 5, 6, 7, 38] [] 1
       refine qN 3 [(27, vb (decide (s21 > 0)))] [24, 3, 4, 7, 6, 5, 0] ?_
       refine qS 27 h56 (fun h58 => ?_) (fun h59 => ?_)
       · refine qN 5 [(32, vi (w64 (s21 - 1))), (30, .v (.slice a0_0 x0.length c0_0)), (29, vi x37.From)] [27, 24, 7, 6, 5, 0] ?_
         obtain ⟨x60, hx61, h62⟩ := bS h58
         refine qi 4 (fun γ w hs => (hv0_0.kept hs.kept)) hx61 ?_
         refine qN 1 [(34, .q a0_0 (Int.toNat (w64 (s21 - 1)) * 4 + 1))] [29, 27, 24, 7, 6, 5, 0] ?_
         refine ql 3 1 (.int .i64 x60.To) (fun γ w hs => (hv0_0.kept hs.kept).flatq hx61) ?_
         refine qN 3 [(38, vb (decide (x37.From < x60.To)))] [7, 6, 5, 0] ?_
         refine qz ?_
         obtain rfl := sI h62
         exact mt () [0, 5, 6, 7, 38] [] 1
       refine qN 11 [(38, vb false)] [7, 6, 5, 0] ?_
       refine qz ?_
       obtain rfl := sI h59
       exact mt () [0, 5, 6, 7, 38] [] 1
     refine nt (cC h42 (fun h64 => ?_) (fun h65 => ?_))
     · refine qs (qr (oN 1 [(2, vb false)] [] ?_))
       refine oe (nt (qe (br (nr (nr ?_)))))
       have h66 := leafR hd30 h64 h26
       refine br (nr (nr ?_))
       obtain rfl := sI h66
       exact re [.bool false]
     refine qk (bn (nt (qr (oN 2 [(7, vi (w64 (s21 + 1)))] [0, 5, 6] ?_))))
     exact oe (ct h65 () [7, 6, 5, 0] [] 0)
   refine qx (nx (nx (bh ?_)))
   have h67 := leafB hd30 h36 h26
   exact mp ((), ()) h67 [0] [] 0
 have h33 := (congrFun hk28 _).symm.trans h33p
 refine nt (qs (qr (oN 4 [(2, vb (decide ((x0.length : Int) ≤ 30)))] [] ?_)))
 refine oe (nt (qe ?_))
 obtain rfl := sI h33
 exact re [.bool (decide ((x0.length : Int) ≤ 30))]

theorem c_impl_StatusAfter {W : World} {x0 : Int} {x1 : Int} {r : Int × Bool} (h : impl_StatusAfter x0 x1 = some r)  :
    Gives0 Tryz.prog 150 #[.int .i64 x0, .int .i64 x1] W (.tuple #[.int .i64 r.1, .bool r.2]) := by
 unfold impl_StatusAfter at h
 refine en Tryz.func150 Tryz.ntmps150 ?_
 refine qs (qr (oN 2 [] [0, 1] ?_))
 refine oe (nt (qs (qb (qs ?_))))
 obtain ⟨p21, hE22, h23⟩ := bS h
 refine JC_cut (τ := Unit) (fun _ => [(0, vi x0), (1, vi x1), (6, vb p21)]) (fun _ => []) (fun _ => []) ?_ (fun _ => ?_)
 · refine qr (oN 3 [(9, vb (x1 == 1))] [0, 1] ?_)
   refine oS 9 hE22 (fun h25 => ?_) (fun h26 => ?_)
   · refine oN 3 [(12, vb (x0 == 0))] [9, 0, 1] ?_
     refine oS 12 h25 (fun h28 => ?_) (fun h29 => ?_)
     · refine oN 5 [(6, vb true)] [0, 1] ?_
       refine oe ?_
       obtain rfl := sI h28
       exact mt () [0, 1, 6] [] 0
     refine oN 5 [(6, vb (x0 == 2))] [0, 1] ?_
     refine oe ?_
     obtain rfl := sI h29
     exact mt () [0, 1, 6] [] 0
   refine oN 8 [(6, vb false)] [0, 1] ?_
   refine oe ?_
   obtain rfl := sI h26
   exact mt () [0, 1, 6] [] 0
 refine nt (cC h23 (fun h65 => ?_) (fun h66 => ?_))
 · refine qs (qr (oN 2 [(5, vb true), (4, vi 1)] [] ?_))
   refine oe (nt (qe (br (nr ?_))))
   obtain rfl := sI h65
   exact re [.int .i64 1, .bool true]
 refine qs ?_
 obtain ⟨p67, hE68, h69⟩ := bS h66
 refine JC_cut (τ := Unit) (fun _ => [(0, vi x0), (1, vi x1), (17, vb p67)]) (fun _ => []) (fun _ => []) ?_ (fun _ => ?_)
 · refine qr (oN 3 [(20, vb (x1 == 2))] [0, 1] ?_)
   refine oS 20 hE68 (fun h71 => ?_) (fun h72 => ?_)
   · refine oN 4 [(17, vb (x0 == 1))] [0, 1] ?_
     refine oe ?_
     obtain rfl := sI h71
     exact mt () [0, 1, 17] [] 0
   refine oN 4 [(17, vb false)] [0, 1] ?_
   refine oe ?_
   obtain rfl := sI h72
   exact mt () [0, 1, 17] [] 0
 refine nt (cC h69 (fun h99 => ?_) (fun h100 => ?_))
 · refine qs (qr (oN 2 [(5, vb true), (4, vi 2)] [] ?_))
   refine oe (nt (qe (br (nr ?_))))
   obtain rfl := sI h99
   exact re [.int .i64 2, .bool true]
 refine qs ?_
 obtain ⟨p101, hE102, h103⟩ := bS h100
 refine JC_cut (τ := Unit) (fun _ => [(0, vi x0), (1, vi x1), (24, vb p101)]) (fun _ => []) (fun _ => []) ?_ (fun _ => ?_)
 · refine qr (oN 3 [(27, vb (x1 == 3))] [0, 1] ?_)
   refine oS 27 hE102 (fun h105 => ?_) (fun h106 => ?_)
   · refine oN 3 [(30, vb (x0 == 1))] [27, 0, 1] ?_
     refine oS 30 h105 (fun h108 => ?_) (fun h109 => ?_)
     · refine oN 5 [(24, vb true)] [0, 1] ?_
       refine oe ?_
       obtain rfl := sI h108
       exact mt () [0, 1, 24] [] 0
     refine oN 5 [(24, vb (x0 == 2))] [0, 1] ?_
     refine oe ?_
     obtain rfl := sI h109
     exact mt () [0, 1, 24] [] 0
   refine oN 8 [(24, vb false)] [0, 1] ?_
   refine oe ?_
   obtain rfl := sI h106
   exact mt () [0, 1, 24] [] 0
 refine nt (cC h103 (fun h124 => ?_) (fun h125 => ?_))
 · refine qs (qr (oN 2 [(5, vb true), (4, vi 3)] [] ?_))
   refine oe (nt (qe (br (nr ?_))))
   obtain rfl := sI h124
   exact re [.int .i64 3, .bool true]
 refine qs ?_
 obtain ⟨p126, hE127, h128⟩ := bS h125
 refine JC_cut (τ := Unit) (fun _ => [(0, vi x0), (35, vb p126)]) (fun _ => []) (fun _ => []) ?_ (fun _ => ?_)
 · refine qr (oN 3 [(38, vb (x1 == 4))] [0] ?_)
   refine oS 38 hE127 (fun h130 => ?_) (fun h131 => ?_)
   · refine oN 1 [(39, vi x0)] [38, 0] ?_
     obtain ⟨t132, h133, h134⟩ := bS h130
     refine k0 (fun γ w hs => c_impl_within h133) ?_
     refine oN 2 [(35, vb t132)] [0] ?_
     refine oe ?_
     obtain rfl := sI h134
     exact mt () [0, 35] [] 0
   refine oN 4 [(35, vb false)] [0] ?_
   refine oe ?_
   obtain rfl := sI h131
   exact mt () [0, 35] [] 0
 refine nt (cC h128 (fun h137 => ?_) (fun h138 => ?_))
 · refine qs (qr (oN 2 [(5, vb true), (4, vi 4)] [] ?_))
   refine oe (nt (qe (br (nr ?_))))
   obtain rfl := sI h137
   exact re [.int .i64 4, .bool true]
 refine qk (bn (nt (qs (qr (oN 3 [(5, vb false), (4, vi x0)] [] ?_)))))
 refine oe (nt (qe ?_))
 obtain rfl := sI h138
 exact re [.int .i64 x0, .bool false]

theorem c_impl_EventsOk {W : World} {x0 : List Event} {a0_0 : Option Addr} {c0_0 : Nat} {r : Bool} (h : impl_EventsOk x0 = some r) (hv0_0 : SlView W x0 a0_0 c0_0) :
    Gives0 Tryz.prog 148 #[.slice a0_0 x0.length c0_0] W (.bool r) := by
 unfold impl_EventsOk at h
 refine en Tryz.func148 Tryz.ntmps148 ?_
 refine qs (qr (oN 1 [] [0] ?_))
 refine oe (nt (qs (qr (oN 2 [(3, vi 0)] [0] ?_))))
 refine oe (nt (qs (qs (qr (oN 3 [(9, vi 0), (8, vi (x0.length : Int)), (7, .v (.slice a0_0 x0.length c0_0))] [3, 0] ?_)))))
 refine oe (nt ?_)
 obtain ⟨r24, hL25, h26⟩ := bS h
 obtain ⟨k27, hk28, h26⟩ := brkS h26
 refine JC_cutP (τ := (Unit) × (Unit)) (fun y => k27 y.1 = some r) (fun y32 => [(0, .v (.slice a0_0 x0.length c0_0))]) (fun y32 => []) (fun y32 => []) ?_ (fun y32 h33p => ?_)
 · refine qb (lp Unit hL25 (fun s21 y22 => [(9, vi s21.1), (8, vi (x0.length : Int)), (7, .v (.slice a0_0 x0.length c0_0)), (3, vi s21.2), (0, .v (.slice a0_0 x0.length c0_0))]) (fun s21 y22 => []) (fun s21 y22 => []) () [9, 8, 7, 3, 0] [] 0 (fun s21 y22 t23 h29 hd30 => ?_))
   refine qs (qr (oN 1 [(10, vb (decide (s21.1 < (x0.length : Int))))] [9, 8, 7, 3, 0] ?_))
   refine oe (nt (qs (cC h29 (fun h35 => ?_) (fun h36 => ?_))))
   · refine qk (nt (qs (qb (qs (qr (oN 1 [(11, vi s21.1)] [9, 8, 7, 3, 0] ?_))))))
     obtain ⟨x37, hx38, h39⟩ := bS h35
     refine oi 2 (fun γ w hs => (hv0_0.kept hs.kept)) hx38 ?_
     refine ol 158 0 (vEvent x37) (fun γ w hs => (hv0_0.kept hs.kept).flatq hx38) ?_
     refine oB 3 [(5, vi s21.1), (6, .p 0 0)] [9, 8, 7, 3, 0] [(158, (eEvent x37))] ?_
     refine oe (nt (qs (qr (oN 3 [(17, vi x37.Kind), (15, vi s21.2)] [5, 6, 9, 8, 7, 0] ?_))))
     obtain ⟨t40, h41, h42⟩ := bS h39
     refine k0 (fun γ w hs => c_impl_StatusAfter h41) ?_
     refine oN 5 [(4, vb t40.2), (3, vi t40.1)] [5, 6, 9, 8, 7, 0] ?_
     refine oe (nt (qs ?_))
     obtain ⟨p44, hE45, h46⟩ := bS h42
     refine JC_cut (τ := Unit) (fun _ => [(0, .v (.slice a0_0 x0.length c0_0)), (3, vi t40.1), (7, .v (.slice a0_0 x0.length c0_0)), (8, vi (x0.length : Int)), (9, vi s21.1), (43, vb p44)]) (fun _ => [(158, (eEvent x37))]) (fun _ => []) ?_ (fun _ => ?_)
     · refine JC_quiet (by kernel_rfl) (by kernel_rfl) ?_
       refine qN 3 [(23, vb (!t40.2))] [3, 5, 6, 9, 8, 7, 0] ?_
       refine qS 23 hE45 (fun h48 => ?_) (fun h49 => ?_)
       · refine qN 20 [(43, vb true)] [3, 9, 8, 7, 0] ?_
         refine qz ?_
         obtain rfl := sI h48
         exact mt () [0, 3, 7, 8, 9, 43] [] 1
       refine qN 2 [(25, vi x37.Month)] [23, 3, 5, 6, 9, 8, 7, 0] ?_
       obtain ⟨t50, h51, h52⟩ := bS h49
       refine q0 (fun γ w hs => c_impl_MonthOk h51) ?_
       refine qN 3 [(29, vb (!t50))] [3, 5, 6, 9, 8, 7, 0] ?_
       refine qS 29 h52 (fun h55 => ?_) (fun h56 => ?_)
       · refine qN 14 [(43, vb true)] [3, 9, 8, 7, 0] ?_
         refine qz ?_
         obtain rfl := sI h55
         exact mt () [0, 3, 7, 8, 9, 43] [] 1
       refine qN 3 [(32, vb (decide (s21.1 > 0)))] [29, 3, 5, 6, 9, 8, 7, 0] ?_
       refine qS 32 h56 (fun h58 => ?_) (fun h59 => ?_)
       · refine qN 3 [(35, vi (w64 (s21.1 - 1))), (33, .v (.slice a0_0 x0.length c0_0))] [32, 29, 3, 6, 9, 8, 7, 0] ?_
         obtain ⟨x60, hx61, h62⟩ := bS h58
         refine qi 2 (fun γ w hs => (hv0_0.kept hs.kept)) hx61 ?_
         refine qN 1 [(37, .q a0_0 (Int.toNat (w64 (s21.1 - 1)) * 2 + 1))] [32, 29, 3, 6, 9, 8, 7, 0] ?_
         refine ql 3 1 (.int .i64 x60.Month) (fun γ w hs => (hv0_0.kept hs.kept).flatq hx61) ?_
         refine qN 5 [(43, vb (decide (x60.Month ≥ x37.Month)))] [3, 9, 8, 7, 0] ?_
         refine qz ?_
         obtain rfl := sI h62
         exact mt () [0, 3, 7, 8, 9, 43] [] 1
       refine qN 11 [(43, vb false)] [3, 9, 8, 7, 0] ?_
       refine qz ?_
       obtain rfl := sI h59
       exact mt () [0, 3, 7, 8, 9, 43] [] 1
     refine nt (cC h46 (fun h64 => ?_) (fun h65 => ?_))
     · refine qs (qr (oN 1 [(2, vb false)] [] ?_))
       refine oe (nt (qe (br (nr (nr ?_)))))
       have h66 := leafR hd30 h64 h26
       refine br (nr (nr ?_))
       obtain rfl := sI h66
       exact re [.bool false]
     refine qk (bn (nt (qr (oN 2 [(9, vi (w64 (s21.1 + 1)))] [0, 3, 7, 8] ?_))))
     exact oe (ct h65 () [9, 8, 7, 3, 0] [] 0)
   refine qx (nx (nx (bh ?_)))
   have h67 := leafB hd30 h36 h26
   exact mp ((), ()) h67 [0] [] 0
 have h33 := (congrFun hk28 _).symm.trans h33p
 refine nt (qs (qr (oN 4 [(2, vb (decide ((x0.length : Int) ≤ 30)))] [] ?_)))
 refine oe (nt (qe ?_))
 obtain rfl := sI h33
 exact re [.bool (decide ((x0.length : Int) ≤ 30))]

theorem c_impl_MemberOk {W : World} {x0 : Member} {b0 : AC × AC} {r : Bool} (h : impl_MemberOk x0 = some r) (hv0_0 : SlView W x0.Spells b0.1.1 b0.1.2) (hv0_1 : SlView W x0.Events b0.2.1 b0.2.2) :
    Gives0 Tryz.prog 97 #[vMember x0 b0] W (.bool r) := by
 unfold impl_MemberOk at h
 refine en Tryz.func97 Tryz.ntmps97 ?_
 refine qs (qr (oB 2 [(1, .p 0 0)] [] [(36, (eMember x0 b0))] ?_))
 refine oe (nt (qs ?_))
 obtain ⟨p21, hE22, h23⟩ := bS h
 refine JC_cut (τ := Unit) (fun _ => [(2, vb p21)]) (fun _ => [(36, (eMember x0 b0))]) (fun _ => []) ?_ (fun _ => ?_)
 · refine qr (oN 2 [(4, vi x0.Birth)] [1] ?_)
   obtain ⟨t24, h25, h26⟩ := bS hE22
   refine k0 (fun γ w hs => c_impl_MonthOk h25) ?_
   refine oN 1 [(6, vb t24)] [1] ?_
   refine oS 6 h26 (fun h29 => ?_) (fun h30 => ?_)
   · refine oN 2 [(8, vi x0.Joined)] [6, 1] ?_
     obtain ⟨t31, h32, h33⟩ := bS h29
     refine k0 (fun γ w hs => c_impl_MonthOk h32) ?_
     refine oN 2 [(11, vb t31)] [1] ?_
     refine oS 11 h33 (fun h36 => ?_) (fun h37 => ?_)
     · refine oN 7 [(18, vb (decide (x0.Birth ≤ x0.Joined)))] [1] ?_
       refine oS 18 h36 (fun h39 => ?_) (fun h40 => ?_)
       · refine oN 2 [(20, .v (.slice b0.1.1 x0.Spells.length b0.1.2))] [18, 1] ?_
         obtain ⟨t41, h42, h43⟩ := bS h39
         refine k0 (fun γ w hs => c_impl_SpellsOk h42 (hv0_0.kept hs.kept)) ?_
         refine oN 2 [(23, vb t41)] [1] ?_
         refine oS 23 h43 (fun h46 => ?_) (fun h47 => ?_)
         · refine oN 2 [(25, .v (.slice b0.2.1 x0.Events.length b0.2.2))] [23] ?_
           obtain ⟨t48, h49, h50⟩ := bS h46
           refine k0 (fun γ w hs => c_impl_EventsOk h49 (hv0_1.kept hs.kept)) ?_
           refine oN 2 [(2, vb t48)] [] ?_
           refine oe ?_
           obtain rfl := sI h50
           exact mt () [2] [] 1
         refine oN 5 [(2, vb false)] [] ?_
         refine oe ?_
         obtain rfl := sI h47
         exact mt () [2] [] 1
       refine oN 10 [(2, vb false)] [] ?_
       refine oe ?_
       obtain rfl := sI h40
       exact mt () [2] [] 1
     refine oN 17 [(2, vb false)] [] ?_
     refine oe ?_
     obtain rfl := sI h37
     exact mt () [2] [] 1
   refine oN 22 [(2, vb false)] [] ?_
   refine oe ?_
   obtain rfl := sI h30
   exact mt () [2] [] 1
 refine nt (qe ?_)
 obtain rfl := sI h23
 exact re [.bool p21]

theorem c_impl_CaseOk {W : World} {x0 : Case} {b0 : AC × AC × AC × AC × AC} {r : Bool} (h : impl_CaseOk x0 = some r) (hv0_0 : SlView W x0.Book.Rules b0.1.1 b0.1.2) (hv0_1 : SlView W x0.Store.Facts b0.2.1.1 b0.2.1.2) (hv0_2 : SlView W x0.Series.Points b0.2.2.1.1 b0.2.2.1.2) (hv0_3 : SlView W x0.Member.Spells b0.2.2.2.1.1 b0.2.2.2.1.2) (hv0_4 : SlView W x0.Member.Events b0.2.2.2.2.1 b0.2.2.2.2.2) :
    Gives0 Tryz.prog 55 #[vCase x0 b0] W (.bool r) := by
 unfold impl_CaseOk at h
 refine en Tryz.func55 Tryz.ntmps55 ?_
 refine qs (qr (oB 2 [(1, .p 0 0)] [] [(38, (eCase x0 b0))] ?_))
 refine oe (nt (qs ?_))
 obtain ⟨p21, hE22, h23⟩ := bS h
 refine JC_cut (τ := Unit) (fun _ => [(2, vb p21)]) (fun _ => [(38, (eCase x0 b0))]) (fun _ => []) ?_ (fun _ => ?_)
 · refine qr (oN 2 [(4, .v (vBook x0.Book b0.1))] [1] ?_)
   obtain ⟨t24, h25, h26⟩ := bS hE22
   refine k0 (fun γ w hs => c_impl_BookOk h25 (hv0_0.kept hs.kept)) ?_
   refine oN 1 [(6, vb t24)] [1] ?_
   refine oS 6 h26 (fun h29 => ?_) (fun h30 => ?_)
   · refine oN 2 [(8, .v (vStore x0.Store b0.2.1))] [6, 1] ?_
     obtain ⟨t31, h32, h33⟩ := bS h29
     refine k0 (fun γ w hs => c_impl_StoreOk h32 (hv0_1.kept hs.kept)) ?_
     refine oN 2 [(11, vb t31)] [1] ?_
     refine oS 11 h33 (fun h36 => ?_) (fun h37 => ?_)
     · refine oN 2 [(13, .v (vSeries x0.Series b0.2.2.1))] [11, 1] ?_
       obtain ⟨t38, h39, h40⟩ := bS h36
       refine k0 (fun γ w hs => c_impl_SeriesOk h39 (hv0_2.kept hs.kept)) ?_
       refine oN 2 [(16, vb t38)] [1] ?_
       refine oS 16 h40 (fun h43 => ?_) (fun h44 => ?_)
       · refine oN 2 [(18, .v (vMember x0.Member b0.2.2.2))] [16] ?_
         obtain ⟨t45, h46, h47⟩ := bS h43
         refine k0 (fun γ w hs => c_impl_MemberOk (b0 := b0.2.2.2) h46 (hv0_3.kept hs.kept) (hv0_4.kept hs.kept)) ?_
         refine oN 2 [(2, vb t45)] [] ?_
         refine oe ?_
         obtain rfl := sI h47
         exact mt () [2] [] 1
       refine oN 5 [(2, vb false)] [] ?_
       refine oe ?_
       obtain rfl := sI h44
       exact mt () [2] [] 1
     refine oN 10 [(2, vb false)] [] ?_
     refine oe ?_
     obtain rfl := sI h37
     exact mt () [2] [] 1
   refine oN 15 [(2, vb false)] [] ?_
   refine oe ?_
   obtain rfl := sI h30
   exact mt () [2] [] 1
 refine nt (qe ?_)
 obtain rfl := sI h23
 exact re [.bool p21]

theorem c_impl_isEnd {W : World} {x0 : Int} {r : Bool} (h : impl_isEnd x0 = some r)  :
    Gives0 Tryz.prog 119 #[.int .i64 x0] W (.bool r) := by
 unfold impl_isEnd at h
 refine en Tryz.func119 Tryz.ntmps119 ?_
 refine qs (qr (oN 1 [] [0] ?_))
 refine oe (nt (qs (qr (oN 1 [(3, vi x0)] [] ?_))))
 obtain ⟨t21, h22, h23⟩ := bS h
 refine k0 (fun γ w hs => c_impl_within h22) ?_
 refine oN 1 [(2, vb t21)] [] ?_
 refine oe (nt (qe ?_))
 obtain rfl := sI h23
 exact re [.bool t21]

theorem c_impl_StatusAt {W : World} {x0 : List Event} {a0_0 : Option Addr} {c0_0 : Nat} {x1 : Int} {r : Int} (h : impl_StatusAt x0 x1 = some r) (hv0_0 : SlView W x0 a0_0 c0_0) :
    Gives0 Tryz.prog 102 #[.slice a0_0 x0.length c0_0, .int .i64 x1] W (.int .i64 r) := by
 unfold impl_StatusAt at h
 refine en Tryz.func102 Tryz.ntmps102 ?_
 refine qs (qr (oN 1 [] [0, 1] ?_))
 refine oe (nt (qs (qr (oN 1 [(5, vi 0)] [0, 1] ?_))))
 refine oe (nt (qs (qs (qr (oN 1 [(8, .v (.slice a0_0 x0.length c0_0))] [5, 0, 1] ?_)))))
 obtain ⟨t21, h22, h23⟩ := bS h
 refine k0 (fun γ w hs => c_impl_EventsOk h22 (hv0_0.kept hs.kept)) ?_
 refine oN 1 [(10, vb (!t21))] [5, 0, 1] ?_
 refine oe (nt (cC h23 (fun h26 => ?_) (fun h27 => ?_)))
 · refine qs (qr (oN 2 [(4, vi 0)] [] ?_))
   refine oe (nt (qe (nr ?_)))
   obtain rfl := sI h26
   exact re [.int .i64 0]
 refine qk (nt (qs (qs (qr (oN 3 [(14, vi 0), (13, vi (x0.length : Int)), (12, .v (.slice a0_0 x0.length c0_0))] [5, 1] ?_)))))
 refine oe (nt ?_)
 obtain ⟨r31, hL32, h33⟩ := bS h27
 obtain ⟨k34, hk35, h33⟩ := brkS h33
 refine JC_cutP (τ := (Int) × (Unit)) (fun y => k34 y.1 = some r) (fun y39 => [(5, vi y39.1)]) (fun y39 => []) (fun y39 => []) ?_ (fun y39 h40p => ?_)
 · refine qb (lp Unit hL32 (fun s28 y29 => [(14, vi s28.1), (13, vi (x0.length : Int)), (12, .v (.slice a0_0 x0.length c0_0)), (5, vi s28.2), (1, vi x1)]) (fun s28 y29 => []) (fun s28 y29 => []) () [14, 13, 12, 5, 1] [] 0 (fun s28 y29 t30 h36 hd37 => ?_))
   refine qs (qr (oN 1 [(15, vb (decide (s28.1 < (x0.length : Int))))] [14, 13, 12, 5, 1] ?_))
   refine oe (nt (qs (cC h36 (fun h42 => ?_) (fun h43 => ?_))))
   · refine qk (nt (qs (qb (qs (qr ?_)))))
     obtain ⟨x44, hx45, h46⟩ := bS h42
     refine oi 2 (fun γ w hs => (hv0_0.kept hs.kept)) hx45 ?_
     refine ol 158 0 (vEvent x44) (fun γ w hs => (hv0_0.kept hs.kept).flatq hx45) ?_
     refine oB 2 [(7, .p 0 0)] [14, 13, 12, 5, 1] [(158, (eEvent x44))] ?_
     refine oe (nt (qs (qr (oN 4 [(21, vb (decide (x44.Month ≤ x1)))] [7, 14, 13, 12, 5, 1] ?_))))
     refine oe (nt ?_)
     obtain ⟨k54, hk55, h57⟩ := jS h46
     refine JC_cutP (τ := (Int) × (Unit)) (fun y => k54 y.1 = some t30) (fun y53 => [(14, vi s28.1), (13, vi (x0.length : Int)), (12, .v (.slice a0_0 x0.length c0_0)), (5, vi y53.1), (1, vi x1)]) (fun y53 => [(158, (eEvent x44))]) (fun y53 => []) ?_ (fun y53 h56p => ?_)
     · refine cC h57 (fun h59 => ?_) (fun h60 => ?_)
       · refine qr (oN 3 [(25, vi x44.Kind), (23, vi s28.2)] [14, 13, 12, 1] ?_)
         obtain ⟨t61, h62, h63⟩ := bS h59
         refine k0 (fun γ w hs => c_impl_StatusAfter h62) ?_
         refine oN 4 [(5, vi t61.1)] [14, 13, 12, 1] ?_
         exact oe (mp (t61.1, ()) h63 [14, 13, 12, 5, 1] [] 1)
       exact qk (mp (s28.2, ()) h60 [14, 13, 12, 5, 1] [] 1)
     have h56 := (congrFun hk55 _).symm.trans h56p
     refine bn (nt (qr (oN 2 [(14, vi (w64 (s28.1 + 1)))] [13, 12, 5, 1] ?_)))
     exact oe (ct h56 () [14, 13, 12, 5, 1] [] 0)
   refine qx (nx (nx (bh ?_)))
   have h65 := leafB hd37 h43 h33
   exact mp (s28.2, ()) h65 [5] [] 0
 have h40 := (congrFun hk35 _).symm.trans h40p
 refine nt (qs (qr (oN 2 [(4, vi y39.1)] [] ?_)))
 refine oe (nt (qe ?_))
 obtain rfl := sI h40
 exact re [.int .i64 y39.1]

/-- Which function value slices.Backward gives. -/
theorem back_Fact_new (ad : Option Addr) (n cap : Nat) (w : World) : Calls Tryz.prog 200 #[.slice ad n cap] w fun e w' => e = .returned (.func (.func 209) #[] #[.pointer (some ⟨w.heap.size, 0, none⟩)]) ∧ w' = w.alloc (.cells #[.slice ad n cap] 27) := by
  refine (callsIn_wide (n := 5)).1 (callsIn_of_wp Tryz.func200 rfl trivial ?_ rfl)
  simp only [Tryz.ntmps200, List.size_toArray, List.length_cons, List.length_nil, Nat.reduceAdd, Nat.reduceSub, Array.replicate_succ, Array.replicate_zero, List.push_toArray, List.append_toArray, List.nil_append, List.cons_append]
  gi_wp2
  go_ret
  exact ⟨rfl, rfl⟩

set_option maxHeartbeats 1000000 in
/-- The iterator over a slice from its end. -/
theorem back_Fact {W0 : World} {xs : List Fact} {ad : Option Addr} {cap : Nat} (hv : SlView W0 xs ad cap) (hlen : xs.length ≤ 1099511627776) (m : Nat) (Bn : Nat) (w1 : World) (hb1 : Below W0.heap.size W0 w1) (hB0 : W0.heap.size ≤ Bn) (hbox : w1.heap[Bn]? = some (.cells #[.slice ad xs.length cap] 27 (0, 0))) :
    SeqStopsK Fence.wide m Tryz.prog 209 #[.pointer (some ⟨Bn, 0, none⟩)] (fun x : Int × Fact => #[.int .i64 x.1, .agg #[.int .i64 x.2.Key, .int .i64 x.2.From, .int .i64 x.2.To, .int .i64 x.2.Known, .int .i64 x.2.Value]]) (KpB W0.heap.size Bn) (fun ys => ys.map (·.2) = xs.reverse) (fun pre => ∃ k, pre.map (·.2) = xs.reverse.take k) xs.length w1 := by
  intro l J Jx W hW hJ hJx hY h0
  have hbl := (Array.getElem?_eq_some_iff.1 hbox).1
  have hbW : W.heap[Bn]? = some (.cells #[.slice ad xs.length cap] 27 (0, 0)) := (hW.block Bn hbl).trans hbox
  have hBW : Below W0.heap.size W0 W := hb1.trans (hW.mono hb1.size)
  have hview : ∀ X, Below W0.heap.size W0 X → SlView X xs ad cap := fun X h => hv.stable (fun g hg => h.block g hg)
  refine callsIn_of_wp Tryz.func209 rfl trivial ?_ rfl
  rw [Tryz.ntmps209]
  refine (show JCI Fence.wide m Tryz.prog (fun _ => False) W [] 19 [] _ (argSV 0 [.v (.func (.yield l) #[] #[]), .q (some ⟨Bn, 0, none⟩) 0]) [] [] _ from ?_) [] _ W (live_args (args := [.func (.yield l) #[] #[], .pointer (some ⟨Bn, 0, none⟩)]) [.v (.func (.yield l) #[] #[]), .q (some ⟨Bn, 0, none⟩) 0] (by simp [SV.den]) rfl rfl) (sat_start W)
  refine JCI_seq ?_
  refine JCI_region ?_
  refine JOI_loadq wl_wide rfl rfl (by kernel_rfl) (t := 27) (d := some ⟨Bn, 0, none⟩) 0 0 (by kernel_rfl) (cs := [.slice ad xs.length cap]) (v := .slice ad xs.length cap) (fun γ w hs => ⟨by simp, (CellsAt.ofBox hbW).kept hs.kept⟩) (by kernel_rfl) (sl' := (4, .v (.slice ad xs.length cap)) :: [(0, .v (.func (.yield l) #[] #[])), (1, .q (some ⟨Bn, 0, none⟩) 0)]) (by kernel_rfl) ?_
  refine JOI_stepsK wl_wide 3 [3, 0, 1] (by kernel_rfl) (sl' := (3, .v (.int .i64 (w64 ((xs.length : Int) - 1)))) :: [(0, .v (.func (.yield l) #[] #[])), (1, .q (some ⟨Bn, 0, none⟩) 0)]) (bx' := []) (by kernel_rfl) ?_
  refine JOI_end (by kernel_rfl) ?_
  refine JEI_then ?_
  refine JCI_block ?_
  intro δ a w hl hs
  obtain rfl : δ = [] := List.length_eq_zero_iff.1 (by simpa using hs.len)
  refine wpIn_loop (fun a w => ∃ (pre : List (Int × Fact)) (k : Nat), k ≤ xs.length ∧ pre.map (·.2) = xs.reverse.take (xs.length - k) ∧ LiveD [] 19 [] ((3, .v (.int .i64 ((k : Int) - 1))) :: [(0, .v (.func (.yield l) #[] #[])), (1, .q (some ⟨Bn, 0, none⟩) 0)]) a ∧ J pre w ∧ Below W0.heap.size W0 w ∧ w.heap[Bn]? = some (.cells #[.slice ad xs.length cap] 27 (0, 0)))
    (fun a w => mu3 a)
    ⟨[], xs.length, Nat.le_refl _, by simp, by rw [w64_id (by omega)] at hl; exact hl, abides_kept hJ h0 hs.kept, hBW.trans (hs.kept.below hBW.size), (hs.kept.block Bn (Array.getElem?_eq_some_iff.1 hbW).1 (fun x => x)).trans hbW⟩ ?_
  rintro a w ⟨pre, k, hk, hpre, hl, hJ1, hB1, hbx⟩
  have hmu : mu3 a = k := by
    rw [mu3_of hl rfl]
    omega
  rw [hmu]
  have hprel : pre.length = xs.length - k := by
    have := congrArg List.length hpre
    simpa using this
  refine (show JCI Fence.wide m Tryz.prog (fun _ => False) w [] 19 [] _ ((3, .v (.int .i64 ((k : Int) - 1))) :: [(0, .v (.func (.yield l) #[] #[])), (1, .q (some ⟨Bn, 0, none⟩) 0)]) [] [] _ from ?_) [] a w hl (sat_start w)
  refine JCI_seq ?_
  refine JCI_seq ?_
  refine JCI_region ?_
  refine JOI_stepsK wl_wide 2 [8, 3, 0, 1] (by kernel_rfl) (sl' := (8, .v (.bool (decide ((k : Int) - 1 ≥ 0)))) :: (3, .v (.int .i64 ((k : Int) - 1))) :: [(0, .v (.func (.yield l) #[] #[])), (1, .q (some ⟨Bn, 0, none⟩) 0)]) (bx' := []) (by kernel_rfl) ?_
  refine JOI_end (by kernel_rfl) ?_
  refine JEI_then ?_
  refine JCI_cond (decide ((k : Int) - 1 ≥ 0)) (by kernel_rfl) (fun hb => ?_) (fun hb => ?_)
  · have hk1 : 1 ≤ k := by have := of_decide_eq_true hb; omega
    obtain ⟨x, hx⟩ : ∃ x, xs[k - 1]? = some x := ⟨_, List.getElem?_eq_getElem (by omega)⟩
    have hidx : idx xs ((k : Int) - 1) = some x := by
      unfold idx
      rw [if_pos (by omega), show ((k : Int) - 1).toNat = k - 1 by omega]
      exact hx
    refine JCI_skip ?_
    refine JEI_then ?_
    refine JCI_seq ?_
    refine JCI_block ?_
    refine JCI_seq ?_
    refine JCI_region ?_
    refine JOI_stepsK wl_wide 2 [12, 11, 3, 0, 1] (by kernel_rfl) (sl' := (12, .v (.int .i64 ((k : Int) - 1))) :: (11, .v (.func (.yield l) #[] #[])) :: (3, .v (.int .i64 ((k : Int) - 1))) :: [(0, .v (.func (.yield l) #[] #[])), (1, .q (some ⟨Bn, 0, none⟩) 0)]) (bx' := []) (by kernel_rfl) ?_
    refine JOI_loadq wl_wide rfl rfl (by kernel_rfl) (t := 27) (d := some ⟨Bn, 0, none⟩) 0 0 (by kernel_rfl) (cs := [.slice ad xs.length cap]) (v := .slice ad xs.length cap) (fun γ w hs => ⟨by simp, (CellsAt.ofBox hbx).kept hs.kept⟩) (by kernel_rfl) (sl' := (13, .v (.slice ad xs.length cap)) :: (12, .v (.int .i64 ((k : Int) - 1))) :: (11, .v (.func (.yield l) #[] #[])) :: (3, .v (.int .i64 ((k : Int) - 1))) :: [(0, .v (.func (.yield l) #[] #[])), (1, .q (some ⟨Bn, 0, none⟩) 0)]) (by kernel_rfl) ?_
    refine JOI_stepsK wl_wide 1 [14, 13, 12, 11, 3, 0, 1] (by kernel_rfl) (sl' := (14, .v (.int .i64 ((k : Int) - 1))) :: (13, .v (.slice ad xs.length cap)) :: (12, .v (.int .i64 ((k : Int) - 1))) :: (11, .v (.func (.yield l) #[] #[])) :: (3, .v (.int .i64 ((k : Int) - 1))) :: [(0, .v (.func (.yield l) #[] #[])), (1, .q (some ⟨Bn, 0, none⟩) 0)]) (bx' := []) (by kernel_rfl) ?_
    refine JOI_index wl_wide rfl rfl (by kernel_rfl) (d := ad) (mm := xs.length) (j := (k : Int) - 1) (s := 5) (by kernel_rfl) (fun γ w' hs => (hview w hB1).kept hs.kept) rfl hidx (sl' := (15, .q ad (Int.toNat ((k : Int) - 1) * 5)) :: (14, .v (.int .i64 ((k : Int) - 1))) :: (13, .v (.slice ad xs.length cap)) :: (12, .v (.int .i64 ((k : Int) - 1))) :: (11, .v (.func (.yield l) #[] #[])) :: (3, .v (.int .i64 ((k : Int) - 1))) :: [(0, .v (.func (.yield l) #[] #[])), (1, .q (some ⟨Bn, 0, none⟩) 0)]) (by kernel_rfl) ?_
    refine JOI_loadq wl_wide rfl rfl (by kernel_rfl) (t := 47) (d := ad) (Int.toNat ((k : Int) - 1) * 5) 0 (by kernel_rfl) (cs := [.int .i64 x.Key, .int .i64 x.From, .int .i64 x.To, .int .i64 x.Known, .int .i64 x.Value]) (v := .agg #[.int .i64 x.Key, .int .i64 x.From, .int .i64 x.To, .int .i64 x.Known, .int .i64 x.Value]) (fun γ w' hs => ((hview w hB1).kept hs.kept).flatq hidx) (by kernel_rfl) (sl' := (16, .v (.agg #[.int .i64 x.Key, .int .i64 x.From, .int .i64 x.To, .int .i64 x.Known, .int .i64 x.Value])) :: (15, .q ad (Int.toNat ((k : Int) - 1) * 5)) :: (14, .v (.int .i64 ((k : Int) - 1))) :: (13, .v (.slice ad xs.length cap)) :: (12, .v (.int .i64 ((k : Int) - 1))) :: (11, .v (.func (.yield l) #[] #[])) :: (3, .v (.int .i64 ((k : Int) - 1))) :: [(0, .v (.func (.yield l) #[] #[])), (1, .q (some ⟨Bn, 0, none⟩) 0)]) (by kernel_rfl) ?_
    refine JOI_yield wl_wide rfl rfl (by kernel_rfl) rfl rfl (y := l) (by kernel_rfl) (args := [.int .i64 ((k : Int) - 1), .agg #[.int .i64 x.Key, .int .i64 x.From, .int .i64 x.To, .int .i64 x.Known, .int .i64 x.Value]]) (by kernel_rfl) rfl (by kernel_rfl) (fun γ w' hs => hY pre ((k : Int) - 1, x) w' (abides_kept hJ hJ1 hs.kept) (by omega)) ?_
    rintro γ w' hs e W3 (⟨rfl, hJ3, hk3⟩ | ⟨rfl, hJx3⟩)
    · refine ⟨true, rfl, fun a' hla => ?_⟩
      have hg0 : γ = [] := List.length_eq_zero_iff.1 (by simpa using hs.len)
      subst hg0
      have hBw' : Below W0.heap.size W0 w' := hB1.trans (hs.kept.below hB1.size)
      have hbx' : w'.heap[Bn]? = some (.cells #[.slice ad xs.length cap] 27 (0, 0)) := (hs.kept.block Bn (Array.getElem?_eq_some_iff.1 hbx).1 (fun x => x)).trans hbx
      have hB3 : Below W0.heap.size W0 W3 := hBw'.trans hk3.1
      have hbx3 : W3.heap[Bn]? = some (.cells #[.slice ad xs.length cap] 27 (0, 0)) := hk3.2.trans hbx'
      refine (show JOI Fence.wide m Tryz.prog (fun _ => False) W3 [] 19 [] _ _ _ [] [] _ from ?_) [] a' W3 hla (sat_start W3)
      refine JOI_stepsK wl_wide 1 [18, 3, 0, 1] (by kernel_rfl) (sl' := (18, .v (.bool false)) :: (3, .v (.int .i64 ((k : Int) - 1))) :: [(0, .v (.func (.yield l) #[] #[])), (1, .q (some ⟨Bn, 0, none⟩) 0)]) (bx' := []) (by kernel_rfl) ?_
      refine JOI_end (by kernel_rfl) ?_
      refine JEI_then ?_
      refine JCI_cond false (by kernel_rfl) (fun h => by cases h) (fun _ => ?_)
      refine JCI_skip ?_
      refine JEI_block_normal ?_
      refine JEI_then ?_
      refine JCI_region ?_
      refine JOI_stepsK wl_wide 3 [3, 0, 1] (by kernel_rfl) (sl' := (3, .v (.int .i64 (w64 ((k : Int) - 1 - 1)))) :: [(0, .v (.func (.yield l) #[] #[])), (1, .q (some ⟨Bn, 0, none⟩) 0)]) (bx' := []) (by kernel_rfl) ?_
      refine JOI_end (by kernel_rfl) ?_
      intro δ2 a2 w2 hl2 hs2
      obtain rfl : δ2 = [] := List.length_eq_zero_iff.1 (by simpa using hs2.len)
      have e1 : w64 ((k : Int) - 1 - 1) = ((k - 1 : Nat) : Int) - 1 := by rw [w64_id (by omega)]; omega
      rw [e1] at hl2
      refine ⟨⟨pre ++ [((k : Int) - 1, x)], k - 1, by omega, ?_, hl2, abides_kept hJ hJ3 hs2.kept, hB3.trans (hs2.kept.below hB3.size), (hs2.kept.block Bn (Array.getElem?_eq_some_iff.1 hbx3).1 (fun x => x)).trans hbx3⟩, ?_⟩
      · rw [List.map_append, hpre, show xs.length - (k - 1) = (xs.length - k) + 1 by omega, List.take_add_one, List.getElem?_reverse (by omega), show xs.length - 1 - (xs.length - k) = k - 1 by omega, hx]
        rfl
      · rw [mu3_of hl2 rfl]
        omega
    · refine ⟨false, rfl, fun a' hla => ?_⟩
      have hg0 : γ = [] := List.length_eq_zero_iff.1 (by simpa using hs.len)
      subst hg0
      refine (show JOI Fence.wide m Tryz.prog (fun _ => False) W3 [] 19 [] _ _ _ [] [] _ from ?_) [] a' W3 hla (sat_start W3)
      refine JOI_stepsK wl_wide 1 [18] (by kernel_rfl) (sl' := [(18, .v (.bool true))]) (bx' := []) (by kernel_rfl) ?_
      refine JOI_end (by kernel_rfl) ?_
      refine JEI_then ?_
      refine JCI_cond true (by kernel_rfl) (fun _ => ?_) (fun h => by cases h)
      refine JCI_ret ?_
      intro δ2 a2 w2 hl2 hs2
      have h9 := results_ok (P := Tryz.prog) (fn := Tryz.f209) (a := { a2 with defers := [] }) (vs := []) hl2.1 hs2 (by kernel_rfl)
      refine ⟨hl2.2, _, h9, ⟨_, rfl⟩, .inr ⟨pre ++ [((k : Int) - 1, x)], ⟨xs.length - (k - 1), ?_⟩, abides_kept hJx hJx3 hs2.kept⟩⟩
      rw [List.map_append, hpre, show xs.length - (k - 1) = (xs.length - k) + 1 by omega, List.take_add_one, List.getElem?_reverse (by omega), show xs.length - 1 - (xs.length - k) = k - 1 by omega, hx]
      rfl
  · have hk0 : k = 0 := by have := of_decide_eq_false hb; omega
    subst hk0
    refine JCI_exit ?_
    refine JEI_then_exit ?_
    refine JEI_then_exit ?_
    refine JEI_block_hit ?_
    intro δ2 a2 w2 hl2 hs2
    have h9 := results_ok (P := Tryz.prog) (fn := Tryz.f209) (a := { a2 with defers := [] }) (vs := []) hl2.1 hs2 (by kernel_rfl)
    refine ⟨hl2.2, _, h9, ⟨_, rfl⟩, .inl ⟨pre, ?_, abides_kept hJ hJ1 hs2.kept⟩⟩
    show pre.map (·.2) = xs.reverse
    rw [hpre, Nat.sub_zero, List.take_of_length_le (by simp)]

theorem c_impl_ValueAt {W : World} {x0 : Store} {a0 : Option Addr} {c0 : Nat} {x1 x2 x3 : Int} {r : Int × Bool} (h : impl_ValueAt x0 x1 x2 x3 = some r) (hv : SlView W x0.Facts a0 c0) :
    Gives0 Tryz.prog 180 #[.agg #[.slice a0 x0.Facts.length c0], .int .i64 x1, .int .i64 x2, .int .i64 x3] W (.tuple #[.int .i64 r.1, .bool r.2]) := by
  unfold impl_ValueAt at h
  cases hlb : decide ((x0.Facts.length : Int) ≤ 1099511627776) with
  | false => rw [hlb] at h; cases h
  | true =>
  rw [hlb] at h
  have hlen : x0.Facts.length ≤ 1099511627776 := by have := of_decide_eq_true hlb; omega
  replace h := Option.some.inj h
  refine enterMk (args := [.agg #[.slice a0 x0.Facts.length c0], .int .i64 x1, .int .i64 x2, .int .i64 x3]) 9 Tryz.func180 rfl Tryz.ntmps180 (by kernel_rfl) ?_
  refine JCI_seq ?_
  refine JCI_region ?_
  refine JOI_stepsK wl_wide 6 [4, 5, 6, 7, 8, 9] (by kernel_rfl) (sl' := [(4, .p 0 0), (5, .p 1 0), (6, .p 2 0), (7, .p 3 0), (8, .p 4 0), (9, .p 5 0)]) (bx' := [(29, [.slice a0 x0.Facts.length c0]), (3, [.int .i64 x1]), (3, [.int .i64 x2]), (3, [.int .i64 x3]), (3, [.int .i64 0]), (4, [.bool false])]) (by kernel_rfl) ?_
  refine JOI_end (by kernel_rfl) ?_
  refine JEI_then ?_
  refine JCI_seq ?_
  refine JCI_seq ?_
  refine JCI_region ?_
  refine JOI_stepsK wl_wide 2 [13, 4, 5, 6, 7, 8, 9] (by kernel_rfl) (sl' := [(13, .v (.slice a0 x0.Facts.length c0)), (4, .p 0 0), (5, .p 1 0), (6, .p 2 0), (7, .p 3 0), (8, .p 4 0), (9, .p 5 0)]) (bx' := [(29, [.slice a0 x0.Facts.length c0]), (3, [.int .i64 x1]), (3, [.int .i64 x2]), (3, [.int .i64 x3]), (3, [.int .i64 0]), (4, [.bool false])]) (by kernel_rfl) ?_
  refine JOI_callbox wl_wide rfl rfl (by kernel_rfl) (f := 200) (gf := 209) (args := #[.slice a0 x0.Facts.length c0]) (by kernel_rfl) (e := 27) (cs := [.slice a0 x0.Facts.length c0]) (fun w => back_Fact_new a0 x0.Facts.length c0 w) (sl' := [(14, .f 209 [(6, 0)]), (13, .v (.slice a0 x0.Facts.length c0)), (4, .p 0 0), (5, .p 1 0), (6, .p 2 0), (7, .p 3 0), (8, .p 4 0), (9, .p 5 0)]) (by kernel_rfl) ?_
  refine JOI_end (by kernel_rfl) ?_
  refine JEI_then ?_
  refine JCI_block ?_
  refine JCI_back (xs := x0.Facts) (kb := 6) (gf := 209) (slB := [(11, .p 7 0), (5, .p 1 0), (6, .p 2 0), (7, .p 3 0), (8, .p 4 0), (9, .p 5 0)]) (ad := a0) (cap := c0) (tS := 27) (tv := 47) (bx := [(29, [.slice a0 x0.Facts.length c0]), (3, [.int .i64 x1]), (3, [.int .i64 x2]), (3, [.int .i64 x3]), (3, [.int .i64 0]), (4, [.bool false]), (27, [.slice a0 x0.Facts.length c0])])
    (fun x => .agg #[.int .i64 x.Key, .int .i64 x.From, .int .i64 x.To, .int .i64 x.Known, .int .i64 x.Value]) (hitFact x1 x2 x3) (fun v => [(29, [.slice a0 x0.Facts.length c0]), (3, [.int .i64 x1]), (3, [.int .i64 x2]), (3, [.int .i64 x3]), (3, [.int .i64 v]), (4, [.bool true]), (27, [.slice a0 x0.Facts.length c0])]) (by decide) (by kernel_rfl) rfl (Go.Proofs.enters_of Tryz.func209 (by kernel_rfl) rfl) (by kernel_rfl) (by kernel_rfl)
    (fun Bn w1 hb1 hB0 hbox => back_Fact hv hlen 8 Bn w1 hb1 hB0 hbox) ?hA ?hB ?hdone ?hstop
  case hA =>
    intro l x W2 γ Q hγ hQ
    refine JCI_region ?_
    refine JOI_stepsK (wl_round l) 2 [11, 5, 6, 7, 8, 9] (by kernel_rfl) (sl' := [(11, .p 7 0), (5, .p 1 0), (6, .p 2 0), (7, .p 3 0), (8, .p 4 0), (9, .p 5 0)]) (bx' := [(29, [.slice a0 x0.Facts.length c0]), (3, [.int .i64 x1]), (3, [.int .i64 x2]), (3, [.int .i64 x3]), (3, [.int .i64 0]), (4, [.bool false]), (27, [.slice a0 x0.Facts.length c0])] ++ [(47, [.int .i64 x.2.Key, .int .i64 x.2.From, .int .i64 x.2.To, .int .i64 x.2.Known, .int .i64 x.2.Value])]) (by kernel_rfl) ?_
    refine JOI_end (by kernel_rfl) ?_
    intro δ a w hl hs
    have hδ : δ.length = 1 := by have := hs.len; simp only [List.length_append, hγ] at this; simp at this; omega
    obtain ⟨gx, rfl⟩ := List.length_eq_one_iff.1 hδ
    exact hQ gx a w hl hs
  case hB =>
    intro l x W2 γ hγ
    refine JCI_block ?_
    refine JCI_seq ?_
    refine JCI_region ?_
    have fin : ∀ b : Bool, (b = false → hitFact x1 x2 x3 x = none) → (b = true → hitFact x1 x2 x3 x = some x.Value) → JEI (fun b => b ∈ γ) W2 [] 41 γ .normal [(38, .v (.bool b)), (11, .p 7 0), (5, .p 1 0), (6, .p 2 0), (7, .p 3 0), (8, .p 4 0), (9, .p 5 0)] ([(29, [.slice a0 x0.Facts.length c0]), (3, [.int .i64 x1]), (3, [.int .i64 x2]), (3, [.int .i64 x3]), (3, [.int .i64 0]), (4, [.bool false]), (27, [.slice a0 x0.Facts.length c0])] ++ [(47, [.int .i64 x.Key, .int .i64 x.From, .int .i64 x.To, .int .i64 x.Known, .int .i64 x.Value])]) []
        (Exit.then (fun a w => (Code.cond (.tmp 38) (Code.seq (Code.region 4 #[(Oper.mk (some 39) (Op.fieldAddr 47 (Operand.tmp 11) 4) 0 "l05_facts.go:49" #[] none), (Oper.mk (some 40) (Op.load 3 (Operand.tmp 39)) 3 "l05_facts.go:49" #[(Edge.mk 0 Ground.data)] none), (Oper.mk none (Op.store 3 (Operand.tmp 8) (Operand.tmp 40)) 0 "l05_facts.go:49" #[(Edge.mk 1 Ground.data), (Edge.mk 0 Ground.phase), (Edge.mk 1 Ground.phase)] none), (Oper.mk none (Op.store 4 (Operand.tmp 9) (Operand.const (Value.bool true))) 0 "l05_facts.go:49" #[(Edge.mk 2 Ground.chain), (Edge.mk 0 Ground.phase), (Edge.mk 1 Ground.phase), (Edge.mk 2 Ground.phase)] none)] false) .ret) .skip).wpIn (Fence.wide.inRound l) 7 Tryz.prog (Exit.inBlock 1 (QB (hitFact x1 x2 x3) (fun v => [(29, [.slice a0 x0.Facts.length c0]), (3, [.int .i64 x1]), (3, [.int .i64 x2]), (3, [.int .i64 x3]), (3, [.int .i64 v]), (4, [.bool true]), (27, [.slice a0 x0.Facts.length c0])]) ([(29, [.slice a0 x0.Facts.length c0]), (3, [.int .i64 x1]), (3, [.int .i64 x2]), (3, [.int .i64 x3]), (3, [.int .i64 0]), (4, [.bool false]), (27, [.slice a0 x0.Facts.length c0])]) x W2 γ γ)) a w) (Exit.inBlock 1 (QB (hitFact x1 x2 x3) (fun v => [(29, [.slice a0 x0.Facts.length c0]), (3, [.int .i64 x1]), (3, [.int .i64 x2]), (3, [.int .i64 x3]), (3, [.int .i64 v]), (4, [.bool true]), (27, [.slice a0 x0.Facts.length c0])]) ([(29, [.slice a0 x0.Facts.length c0]), (3, [.int .i64 x1]), (3, [.int .i64 x2]), (3, [.int .i64 x3]), (3, [.int .i64 0]), (4, [.bool false]), (27, [.slice a0 x0.Facts.length c0])]) x W2 γ γ))) := by
      intro b hbf hbt
      refine JEI_then ?_
      refine JCI_cond b rfl (fun e => ?_) (fun e => ?_)
      · subst e
        refine JCI_seq ?_
        refine JCI_region ?_
        refine JOI_stepsK (wl_round l) 4 [8, 9] (by kernel_rfl) (sl' := [(8, .p 4 0), (9, .p 5 0)]) (bx' := [(29, [.slice a0 x0.Facts.length c0]), (3, [.int .i64 x1]), (3, [.int .i64 x2]), (3, [.int .i64 x3]), (3, [.int .i64 x.Value]), (4, [.bool true]), (27, [.slice a0 x0.Facts.length c0]), (47, [.int .i64 x.Key, .int .i64 x.From, .int .i64 x.To, .int .i64 x.Known, .int .i64 x.Value])]) (by kernel_rfl) ?_
        refine JOI_end (by kernel_rfl) ?_
        refine JEI_then ?_
        refine JCI_ret ?_
        refine JEI_block_ret ?_
        exact fun δ a w hl hs => ⟨x.Value, hbt rfl, δ, _, rfl, hs⟩
      · subst e
        refine JCI_skip ?_
        refine JEI_block_normal ?_
        exact fun δ a w hl hs => ⟨hbf rfl, δ, _, rfl, hs⟩
    refine JOI_stepsK (wl_round l) 4 [20, 11, 5, 6, 7, 8, 9] (by kernel_rfl) (sl' := [(20, .v (.bool (x.Key == x1))), (11, .p 7 0), (5, .p 1 0), (6, .p 2 0), (7, .p 3 0), (8, .p 4 0), (9, .p 5 0)]) (bx' := [(29, [.slice a0 x0.Facts.length c0]), (3, [.int .i64 x1]), (3, [.int .i64 x2]), (3, [.int .i64 x3]), (3, [.int .i64 0]), (4, [.bool false]), (27, [.slice a0 x0.Facts.length c0])] ++ [(47, [.int .i64 x.Key, .int .i64 x.From, .int .i64 x.To, .int .i64 x.Known, .int .i64 x.Value])]) (by kernel_rfl) ?_
    refine JOI_stepsK (wl_round l) 1 [21, 11, 5, 6, 7, 8, 9] (by kernel_rfl) (sl' := [(21, .v (.bool (x.Key == x1))), (11, .p 7 0), (5, .p 1 0), (6, .p 2 0), (7, .p 3 0), (8, .p 4 0), (9, .p 5 0)]) (bx' := [(29, [.slice a0 x0.Facts.length c0]), (3, [.int .i64 x1]), (3, [.int .i64 x2]), (3, [.int .i64 x3]), (3, [.int .i64 0]), (4, [.bool false]), (27, [.slice a0 x0.Facts.length c0])] ++ [(47, [.int .i64 x.Key, .int .i64 x.From, .int .i64 x.To, .int .i64 x.Known, .int .i64 x.Value])]) (by kernel_rfl) ?_
    refine JOI_split 21 (x.Key == x1) (by kernel_rfl) (fun b1 => ?_) (fun b1 => ?_)
    · refine JOI_stepsK (wl_round l) 6 [27, 11, 5, 6, 7, 8, 9] (by kernel_rfl) (sl' := [(27, .v (.bool (decide (x.From ≤ x2)))), (11, .p 7 0), (5, .p 1 0), (6, .p 2 0), (7, .p 3 0), (8, .p 4 0), (9, .p 5 0)]) (bx' := [(29, [.slice a0 x0.Facts.length c0]), (3, [.int .i64 x1]), (3, [.int .i64 x2]), (3, [.int .i64 x3]), (3, [.int .i64 0]), (4, [.bool false]), (27, [.slice a0 x0.Facts.length c0])] ++ [(47, [.int .i64 x.Key, .int .i64 x.From, .int .i64 x.To, .int .i64 x.Known, .int .i64 x.Value])]) (by kernel_rfl) ?_
      refine JOI_split 27 (decide (x.From ≤ x2)) (by kernel_rfl) (fun b2 => ?_) (fun b2 => ?_)
      · refine JOI_stepsK (wl_round l) 6 [33, 11, 5, 6, 7, 8, 9] (by kernel_rfl) (sl' := [(33, .v (.bool (decide (x2 < x.To)))), (11, .p 7 0), (5, .p 1 0), (6, .p 2 0), (7, .p 3 0), (8, .p 4 0), (9, .p 5 0)]) (bx' := [(29, [.slice a0 x0.Facts.length c0]), (3, [.int .i64 x1]), (3, [.int .i64 x2]), (3, [.int .i64 x3]), (3, [.int .i64 0]), (4, [.bool false]), (27, [.slice a0 x0.Facts.length c0])] ++ [(47, [.int .i64 x.Key, .int .i64 x.From, .int .i64 x.To, .int .i64 x.Known, .int .i64 x.Value])]) (by kernel_rfl) ?_
        refine JOI_split 33 (decide (x2 < x.To)) (by kernel_rfl) (fun b3 => ?_) (fun b3 => ?_)
        · refine JOI_stepsK (wl_round l) 5 [38, 11, 5, 6, 7, 8, 9] (by kernel_rfl) (sl' := [(38, .v (.bool (decide (x.Known ≤ x3)))), (11, .p 7 0), (5, .p 1 0), (6, .p 2 0), (7, .p 3 0), (8, .p 4 0), (9, .p 5 0)]) (bx' := [(29, [.slice a0 x0.Facts.length c0]), (3, [.int .i64 x1]), (3, [.int .i64 x2]), (3, [.int .i64 x3]), (3, [.int .i64 0]), (4, [.bool false]), (27, [.slice a0 x0.Facts.length c0])] ++ [(47, [.int .i64 x.Key, .int .i64 x.From, .int .i64 x.To, .int .i64 x.Known, .int .i64 x.Value])]) (by kernel_rfl) ?_
          refine JOI_end (by kernel_rfl) ?_
          exact fin _ (fun e => by simp [hitFact, b1, b2, b3, e]) (fun e => by simp [hitFact, b1, b2, b3, e])
        · refine JOI_stepsK (wl_round l) 5 [38, 11, 5, 6, 7, 8, 9] (by kernel_rfl) (sl' := [(38, .v (.bool false)), (11, .p 7 0), (5, .p 1 0), (6, .p 2 0), (7, .p 3 0), (8, .p 4 0), (9, .p 5 0)]) (bx' := [(29, [.slice a0 x0.Facts.length c0]), (3, [.int .i64 x1]), (3, [.int .i64 x2]), (3, [.int .i64 x3]), (3, [.int .i64 0]), (4, [.bool false]), (27, [.slice a0 x0.Facts.length c0])] ++ [(47, [.int .i64 x.Key, .int .i64 x.From, .int .i64 x.To, .int .i64 x.Known, .int .i64 x.Value])]) (by kernel_rfl) ?_
          refine JOI_end (by kernel_rfl) ?_
          exact fin _ (fun e => by simp [hitFact, b1, b2, b3]) (fun e => by cases e)
      · refine JOI_stepsK (wl_round l) 11 [38, 11, 5, 6, 7, 8, 9] (by kernel_rfl) (sl' := [(38, .v (.bool false)), (11, .p 7 0), (5, .p 1 0), (6, .p 2 0), (7, .p 3 0), (8, .p 4 0), (9, .p 5 0)]) (bx' := [(29, [.slice a0 x0.Facts.length c0]), (3, [.int .i64 x1]), (3, [.int .i64 x2]), (3, [.int .i64 x3]), (3, [.int .i64 0]), (4, [.bool false]), (27, [.slice a0 x0.Facts.length c0])] ++ [(47, [.int .i64 x.Key, .int .i64 x.From, .int .i64 x.To, .int .i64 x.Known, .int .i64 x.Value])]) (by kernel_rfl) ?_
        refine JOI_end (by kernel_rfl) ?_
        exact fin _ (fun e => by simp [hitFact, b1, b2]) (fun e => by cases e)
    · refine JOI_stepsK (wl_round l) 17 [38, 11, 5, 6, 7, 8, 9] (by kernel_rfl) (sl' := [(38, .v (.bool false)), (11, .p 7 0), (5, .p 1 0), (6, .p 2 0), (7, .p 3 0), (8, .p 4 0), (9, .p 5 0)]) (bx' := [(29, [.slice a0 x0.Facts.length c0]), (3, [.int .i64 x1]), (3, [.int .i64 x2]), (3, [.int .i64 x3]), (3, [.int .i64 0]), (4, [.bool false]), (27, [.slice a0 x0.Facts.length c0])] ++ [(47, [.int .i64 x.Key, .int .i64 x.From, .int .i64 x.To, .int .i64 x.Known, .int .i64 x.Value])]) (by kernel_rfl) ?_
      refine JOI_end (by kernel_rfl) ?_
      exact fin _ (fun e => by simp [hitFact, b1]) (fun e => by cases e)
  case hdone =>
    intro hn D W2 γ hD hK hs0
    rw [hn] at h
    subst h
    refine JEI_block_normal ?_
    refine JEI_then ?_
    refine JCI_seq ?_
    refine JCI_region ?_
    refine JOI_stepsK wl_wide 2 [8, 9] (by kernel_rfl) (sl' := [(8, .p 4 0), (9, .p 5 0)]) (bx' := [(29, [.slice a0 x0.Facts.length c0]), (3, [.int .i64 x1]), (3, [.int .i64 x2]), (3, [.int .i64 x3]), (3, [.int .i64 0]), (4, [.bool false]), (27, [.slice a0 x0.Facts.length c0])]) (by kernel_rfl) ?_
    refine JOI_end (by kernel_rfl) ?_
    refine JEI_then ?_
    refine JCI_ret ?_
    exact JEI_retM (vs := [.int .i64 0, .bool false]) (by kernel_rfl) hD hK hs0 (fun w' hb => ⟨rfl, hb⟩)
  case hstop =>
    intro v hn D W2 γ hD hK hs0
    rw [hn] at h
    subst h
    refine JEI_block_ret ?_
    refine JEI_then_ret ?_
    exact JEI_retM (vs := [.int .i64 v, .bool true]) (by kernel_rfl) hD hK hs0 (fun w' hb => ⟨rfl, hb⟩)


theorem c_impl_FinalPay {W : World} {x0 : Store} {a0_0 : Option Addr} {c0_0 : Nat} {x1 : Int} {x2 : Int} {r : Int × Bool} (h : impl_FinalPay x0 x1 x2 = some r) (hv0_0 : SlView W x0.Facts a0_0 c0_0) :
    Gives0 Tryz.prog 128 #[vStore x0 (a0_0, c0_0), .int .i64 x1, .int .i64 x2] W (.tuple #[.int .i64 r.1, .bool r.2]) := by
 unfold impl_FinalPay at h
 refine en Tryz.func128 Tryz.ntmps128 ?_
 refine qs (qr (oB 3 [(3, .p 0 0)] [1, 2] [(29, (eStore x0 (a0_0, c0_0)))] ?_))
 refine oe (nt (qs (qs ?_)))
 obtain ⟨p21, hE22, h23⟩ := bS h
 refine JC_cut (τ := Unit) (fun _ => [(1, vi x1), (2, vi x2), (3, .p 0 0), (18, vb p21)]) (fun _ => [(29, (eStore x0 (a0_0, c0_0)))]) (fun _ => []) ?_ (fun _ => ?_)
 · refine qr (oN 1 [(11, .v (vStore x0 (a0_0, c0_0)))] [3, 1, 2] ?_)
   obtain ⟨t24, h25, h26⟩ := bS hE22
   refine k0 (fun γ w hs => c_impl_StoreOk h25 (hv0_0.kept hs.kept)) ?_
   refine oN 2 [(14, vb (!t24))] [3, 1, 2] ?_
   refine oS 14 h26 (fun h29 => ?_) (fun h30 => ?_)
   · refine oN 4 [(18, vb true)] [3, 1, 2] ?_
     refine oe ?_
     obtain rfl := sI h29
     exact mt () [1, 2, 3, 18] [] 1
   refine oN 1 [(15, vi x1)] [14, 3, 1, 2] ?_
   obtain ⟨t31, h32, h33⟩ := bS h30
   refine k0 (fun γ w hs => c_impl_isEnd h32) ?_
   refine oN 2 [(18, vb (!t31))] [3, 1, 2] ?_
   refine oe ?_
   obtain rfl := sI h33
   exact mt () [1, 2, 3, 18] [] 1
 refine nt (cC h23 (fun h36 => ?_) (fun h37 => ?_))
 · refine qs (qr (oN 2 [(7, vb false), (6, vi 0)] [] ?_))
   refine oe (nt (qe (nr ?_)))
   obtain rfl := sI h36
   exact re [.int .i64 0, .bool false]
 refine qk (nt (qs (qs (qr (oN 3 [(8, vi (w64 (x1 - 1)))] [2, 3] ?_)))))
 refine oe (nt ?_)
 obtain ⟨r41, hL42, h43⟩ := bS h37
 obtain ⟨k44, hk45, h43⟩ := brkS h43
 refine JC_cutP (τ := (Unit) × (Unit)) (fun y => k44 y.1 = some r) (fun y49 => []) (fun y49 => [(29, (eStore x0 (a0_0, c0_0)))]) (fun y49 => []) ?_ (fun y49 h50p => ?_)
 · refine qb (lp Unit hL42 (fun s38 y39 => [(8, vi s38), (2, vi x2), (3, .p 0 0)]) (fun s38 y39 => [(29, (eStore x0 (a0_0, c0_0)))]) (fun s38 y39 => []) () [8, 2, 3] [] 1 (fun s38 y39 t40 h46 hd47 => ?_))
   refine qs (qs (qr (oN 2 [(22, vb (decide (s38 ≥ 0)))] [8, 2, 3] ?_)))
   refine oe (nt (cC h46 (fun h52 => ?_) (fun h53 => ?_)))
   · refine qk (nt (qs (qb (qs (qr (oN 3 [(28, vi x2), (27, vi s38), (26, .v (vStore x0 (a0_0, c0_0)))] [8, 2, 3] ?_))))))
     obtain ⟨t54, h55, h56⟩ := bS h52
     refine k0 (fun γ w hs => c_impl_ValueAt h55 (hv0_0.kept hs.kept)) ?_
     refine oN 5 [(10, vb t54.2), (9, vi t54.1)] [8, 2, 3] ?_
     refine oe (nt (qs (qr (oN 1 [(32, vb t54.2)] [9, 8, 2, 3] ?_))))
     refine oe (nt (cC h56 (fun h59 => ?_) (fun h60 => ?_)))
     · refine qs (qr (oN 3 [(7, vb true), (6, vi t54.1)] [] ?_))
       refine oe (nt (qe (br (nr (nr ?_)))))
       have h61 := leafR hd47 h59 h43
       refine br (nr (nr ?_))
       obtain rfl := sI h61
       exact re [.int .i64 t54.1, .bool true]
     refine qk (bn (nt (qr (oN 3 [(8, vi (w64 (s38 - 1)))] [2, 3] ?_))))
     exact oe (ct h60 () [8, 2, 3] [] 1)
   refine qx (nx (nx (bh ?_)))
   have h62 := leafB hd47 h53 h43
   exact mp ((), ()) h62 [] [] 1
 have h50 := (congrFun hk45 _).symm.trans h50p
 refine nt (qs (qr (oN 2 [(7, vb false), (6, vi 0)] [] ?_)))
 refine oe (nt (qe ?_))
 obtain rfl := sI h50
 exact re [.int .i64 0, .bool false]

theorem c_impl_IndexAt {W : World} {x0 : Series} {a0_0 : Option Addr} {c0_0 : Nat} {x1 : Int} {x2 : Int} {r : Int × Bool} (h : impl_IndexAt x0 x1 x2 = some r) (hv0_0 : SlView W x0.Points a0_0 c0_0) :
    Gives0 Tryz.prog 181 #[vSeries x0 (a0_0, c0_0), .int .i64 x1, .int .i64 x2] W (.tuple #[.int .i64 r.1, .bool r.2]) := by
 unfold impl_IndexAt at h
 refine en Tryz.func181 Tryz.ntmps181 ?_
 refine qs (qr (oB 3 [(3, .p 0 0)] [1, 2] [(32, (eSeries x0 (a0_0, c0_0)))] ?_))
 refine oe (nt (qs (qr (oB 3 [(8, .p 1 0)] [3, 1, 2] [(32, (eSeries x0 (a0_0, c0_0))), (52, (ePoint (Point.mk 0 0 0)))] ?_))))
 refine oe (nt (qs (qr (oN 1 [(9, vb false)] [8, 3, 1, 2] ?_))))
 refine oe (nt (qs (qs (qr (oN 4 [(16, vi 0), (15, vi (x0.Points.length : Int)), (14, .v (.slice a0_0 x0.Points.length c0_0))] [9, 8, 1, 2] ?_)))))
 refine oe (nt ?_)
 obtain ⟨r24, hL25, h26⟩ := bS h
 obtain ⟨k27, hk28, h26⟩ := brkS h26
 refine JC_cutP (τ := (Bool × Int × Int × Int) × (Unit)) (fun y => k27 y.1 = some r) (fun y32 => [(9, vb y32.1.1), (8, .p 1 0)]) (fun y32 => [(32, (eSeries x0 (a0_0, c0_0))), (52, (ePoint (Point.mk y32.1.2.1 y32.1.2.2.1 y32.1.2.2.2)))]) (fun y32 => []) ?_ (fun y32 h33p => ?_)
 · refine qb (lp Unit hL25 (fun s21 y22 => [(16, vi s21.1), (15, vi (x0.Points.length : Int)), (14, .v (.slice a0_0 x0.Points.length c0_0)), (9, vb s21.2.1), (8, .p 1 0), (1, vi x1), (2, vi x2)]) (fun s21 y22 => [(32, (eSeries x0 (a0_0, c0_0))), (52, (ePoint (Point.mk s21.2.2.1 s21.2.2.2.1 s21.2.2.2.2)))]) (fun s21 y22 => []) () [16, 15, 14, 9, 8, 1, 2] [] 2 (fun s21 y22 t23 h29 hd30 => ?_))
   refine qs (qr (oN 1 [(17, vb (decide (s21.1 < (x0.Points.length : Int))))] [16, 15, 14, 9, 8, 1, 2] ?_))
   refine oe (nt (qs (cC h29 (fun h35 => ?_) (fun h36 => ?_))))
   · refine qk (nt (qs (qb (qs (qr ?_)))))
     obtain ⟨x37, hx38, h39⟩ := bS h35
     refine oi 3 (fun γ w hs => (hv0_0.kept hs.kept)) hx38 ?_
     refine ol 52 0 (vPoint x37) (fun γ w hs => (hv0_0.kept hs.kept).flatq hx38) ?_
     refine oB 2 [(11, .p 2 0)] [16, 15, 14, 9, 8, 1, 2] [(32, (eSeries x0 (a0_0, c0_0))), (52, (ePoint (Point.mk s21.2.2.1 s21.2.2.2.1 s21.2.2.2.2))), (52, (ePoint x37))] ?_
     refine oe (nt (qs ?_))
     obtain ⟨p40, hE41, h42⟩ := bS h39
     refine JC_cut (τ := Unit) (fun _ => [(1, vi x1), (2, vi x2), (8, .p 1 0), (9, vb s21.2.1), (11, .p 2 0), (14, .v (.slice a0_0 x0.Points.length c0_0)), (15, vi (x0.Points.length : Int)), (16, vi s21.1), (40, vb p40)]) (fun _ => [(32, (eSeries x0 (a0_0, c0_0))), (52, (ePoint (Point.mk s21.2.2.1 s21.2.2.2.1 s21.2.2.2.2))), (52, (ePoint x37))]) (fun _ => []) ?_ (fun _ => ?_)
     · refine qr (oN 5 [(24, vb (decide (x37.Month ≤ x1)))] [11, 16, 15, 14, 9, 8, 1, 2] ?_)
       refine oS 24 hE41 (fun h44 => ?_) (fun h45 => ?_)
       · refine oN 6 [(30, vb (decide (x37.Known ≤ x2)))] [11, 16, 15, 14, 9, 8, 1, 2] ?_
         refine oS 30 h44 (fun h47 => ?_) (fun h48 => ?_)
         · refine oN 3 [(33, vb (!s21.2.1))] [30, 11, 16, 15, 14, 9, 8, 1, 2] ?_
           refine oS 33 h47 (fun h50 => ?_) (fun h51 => ?_)
           · refine oN 7 [(40, vb true)] [11, 16, 15, 14, 9, 8, 1, 2] ?_
             refine oe ?_
             obtain rfl := sI h50
             exact mt () [1, 2, 8, 9, 11, 14, 15, 16, 40] [] 3
           refine oN 7 [(40, vb (decide (x37.Month ≥ s21.2.2.1)))] [11, 16, 15, 14, 9, 8, 1, 2] ?_
           refine oe ?_
           obtain rfl := sI h51
           exact mt () [1, 2, 8, 9, 11, 14, 15, 16, 40] [] 3
         refine oN 10 [(40, vb false)] [11, 16, 15, 14, 9, 8, 1, 2] ?_
         refine oe ?_
         obtain rfl := sI h48
         exact mt () [1, 2, 8, 9, 11, 14, 15, 16, 40] [] 3
       refine oN 16 [(40, vb false)] [11, 16, 15, 14, 9, 8, 1, 2] ?_
       refine oe ?_
       obtain rfl := sI h45
       exact mt () [1, 2, 8, 9, 11, 14, 15, 16, 40] [] 3
     refine nt ?_
     obtain ⟨k55, hk56, h58⟩ := jS h42
     refine JC_cutP (τ := (Bool × Int × Int × Int) × (Unit)) (fun y => k55 y.1 = some t23) (fun y54 => [(1, vi x1), (2, vi x2), (8, .p 1 0), (9, vb y54.1.1), (14, .v (.slice a0_0 x0.Points.length c0_0)), (15, vi (x0.Points.length : Int)), (16, vi s21.1)]) (fun y54 => [(32, (eSeries x0 (a0_0, c0_0))), (52, (ePoint (Point.mk y54.1.2.1 y54.1.2.2.1 y54.1.2.2.2))), (52, (ePoint x37))]) (fun y54 => []) ?_ (fun y54 h57p => ?_)
     · refine cC h58 (fun h60 => ?_) (fun h61 => ?_)
       · refine qr (oB 3 [(9, vb true)] [1, 2, 8, 14, 15, 16] [(32, (eSeries x0 (a0_0, c0_0))), (52, (ePoint x37)), (52, (ePoint x37))] ?_)
         exact oe (mp ((true, x37.Month, x37.Known, x37.Value), ()) h60 [1, 2, 8, 9, 14, 15, 16] [] 3)
       exact qk (mp ((s21.2.1, s21.2.2.1, s21.2.2.2.1, s21.2.2.2.2), ()) h61 [1, 2, 8, 9, 14, 15, 16] [] 3)
     have h57 := (congrFun hk56 _).symm.trans h57p
     refine bn (nt (qr (oN 2 [(16, vi (w64 (s21.1 + 1)))] [1, 2, 8, 9, 14, 15] ?_)))
     exact oe (ct h57 () [16, 15, 14, 9, 8, 1, 2] [] 2)
   refine qx (nx (nx (bh ?_)))
   have h62 := leafB hd30 h36 h26
   exact mp ((s21.2.1, s21.2.2.1, s21.2.2.2.1, s21.2.2.2.2), ()) h62 [9, 8] [] 2
 have h33 := (congrFun hk28 _).symm.trans h33p
 refine nt (qs (qr (oN 5 [(7, vb y32.1.1), (6, vi y32.1.2.2.2)] [] ?_)))
 refine oe (nt (qe ?_))
 obtain rfl := sI h33
 exact re [.int .i64 y32.1.2.2.2, .bool y32.1.1]

theorem c_impl_reduced {W : World} {x0 : Int} {x1 : Int} {r : Frac × Bool} (h : impl_reduced x0 x1 = some r)  :
    Gives0 Tryz.prog 131 #[.int .i64 x0, .int .i64 x1] W (.tuple #[vFrac r.1, .bool r.2]) := by
 unfold impl_reduced at h
 refine en Tryz.func131 Tryz.ntmps131 ?_
 refine qs (qr (oB 2 [(4, .p 0 0)] [0, 1] [(133, (eFrac (Frac.mk 0 0)))] ?_))
 refine oe (nt (qs (qs (qr (oN 2 [(9, vb (decide (x1 < 0)))] [4, 0, 1] ?_)))))
 refine oe (nt ?_)
 obtain ⟨k24, hk25, h45⟩ := jS h
 refine JC_cutP (τ := (Int × Int) × (Unit)) (fun y => k24 y.1 = some r) (fun y23 => [(4, .p 0 0), (0, vi y23.1.1), (1, vi y23.1.2)]) (fun y23 => [(133, (eFrac (Frac.mk 0 0)))]) (fun y23 => []) ?_ (fun y23 h26p => ?_)
 · refine cC h45 (fun h47 => ?_) (fun h48 => ?_)
   · refine qr (oN 6 [(1, vi (w64 (0 - x1))), (0, vi (w64 (0 - x0)))] [4] ?_)
     exact oe (mp ((w64 (0 - x0), w64 (0 - x1)), ()) h47 [4, 0, 1] [] 1)
   exact qk (mp ((x0, x1), ()) h48 [4, 0, 1] [] 1)
 have h26 := (congrFun hk25 _).symm.trans h26p
 refine nt (qs (qr (oN 2 [(15, vi y23.1.2), (14, vi y23.1.1)] [4, 0, 1] ?_)))
 obtain ⟨t27, h28, h29⟩ := bS h26
 refine k0 (fun γ w hs => c_impl_gcd h28) ?_
 refine oN 1 [(6, vi t27)] [4, 0, 1] ?_
 refine oe (nt (qs ?_))
 obtain ⟨u33, hz32, h31⟩ := bS h29
 obtain ⟨u36, hz35, h34⟩ := bS h31
 refine JC_cut (τ := Unit) (fun _ => [(7, .p 1 0), (4, .p 0 0)]) (fun _ => [(133, (eFrac (Frac.mk 0 0))), (133, (eFrac (Frac.mk (w64 (Int.tdiv y23.1.1 t27)) (w64 (Int.tdiv y23.1.2 t27)))))]) (fun _ => []) ?_ (fun _ => ?_)
 · refine jw [6, 4, 0, 1] [] ?_
   refine JC_heldN (ks := [0]) (Rk := []) 9 (by kernel_rfl) (by kernel_rfl) ?_
   refine htq 0 (vi y23.1.1) [] ?_
   refine hk [17, 6, 4, 1] ?_
   refine htq 1 (vi t27) [] ?_
   refine ht 2 (vi (w64 (Int.tdiv y23.1.1 t27))) [] (div_held (op := .quo) (k := .i64) (x := y23.1.1) (y := t27) (by kernel_rfl) (nz_some hz32)) ?_
   refine hk [19, 6, 4, 1] ?_
   refine htq 3 (vi y23.1.2) [] ?_
   refine hk [20, 19, 6, 4] ?_
   refine htq 4 (vi t27) [] ?_
   refine hk [21, 20, 19, 4] ?_
   refine ht 5 (vi (w64 (Int.tdiv y23.1.2 t27))) [] (div_held (op := .quo) (k := .i64) (x := y23.1.2) (y := t27) (by kernel_rfl) (nz_some hz35)) ?_
   refine hk [22, 19, 4] ?_
   refine htq 6 (.v (vFrac (Frac.mk (w64 (Int.tdiv y23.1.1 t27)) (w64 (Int.tdiv y23.1.2 t27))))) [] ?_
   refine hk [23, 4] ?_
   refine ha1 7 ?_
   refine hi (fun γ0 δ hm => ?_)
   refine gs [(7, .p 1 0), (23, .v (vFrac (Frac.mk (w64 (Int.tdiv y23.1.1 t27)) (w64 (Int.tdiv y23.1.2 t27))))), (4, .p 0 0)] [(133, (eFrac (Frac.mk 0 0))), (133, (eFrac (Frac.mk 0 0)))] (fun δ2 => ?_)
   refine gd hm [7, 23, 4] [] ?_
   refine ha1 8 ?_
   refine hi (fun γ0 δ hm => ?_)
   refine gs [(7, .p 1 0), (23, .v (vFrac (Frac.mk (w64 (Int.tdiv y23.1.1 t27)) (w64 (Int.tdiv y23.1.2 t27))))), (4, .p 0 0)] [(133, (eFrac (Frac.mk 0 0))), (133, (eFrac (Frac.mk (w64 (Int.tdiv y23.1.1 t27)) (w64 (Int.tdiv y23.1.2 t27)))))] (fun δ2 => ?_)
   refine gd hm [7, 4] [] ?_
   exact hd () [7, 4] [] 2
 refine nt (qs (qs (qr (oN 1 [(24, .v (vFrac (Frac.mk (w64 (Int.tdiv y23.1.1 t27)) (w64 (Int.tdiv y23.1.2 t27)))))] [7, 4] ?_))))
 obtain ⟨t38, h39, h40⟩ := bS h34
 refine k0 (fun γ w hs => c_impl_FracOk h39) ?_
 refine oN 1 [(26, vb (!t38))] [7, 4] ?_
 refine oe (nt (cC h40 (fun h43 => ?_) (fun h44 => ?_)))
 · refine qs (qr (oN 3 [(5, vb false)] [4] ?_))
   refine oe (nt (qe (nr ?_)))
   obtain rfl := sI h43
   exact re [vFrac (Frac.mk 0 0), .bool false]
 refine qk (nt (qs (qr (oB 3 [(5, vb true)] [4] [(133, (eFrac (Frac.mk (w64 (Int.tdiv y23.1.1 t27)) (w64 (Int.tdiv y23.1.2 t27))))), (133, (eFrac (Frac.mk (w64 (Int.tdiv y23.1.1 t27)) (w64 (Int.tdiv y23.1.2 t27)))))] ?_))))
 refine oe (nt (qe ?_))
 obtain rfl := sI h44
 exact re [vFrac (Frac.mk (w64 (Int.tdiv y23.1.1 t27)) (w64 (Int.tdiv y23.1.2 t27))), .bool true]

theorem c_impl_FracNew {W : World} {x0 : Int} {x1 : Int} {r : Frac × Bool} (h : impl_FracNew x0 x1 = some r)  :
    Gives0 Tryz.prog 182 #[.int .i64 x0, .int .i64 x1] W (.tuple #[vFrac r.1, .bool r.2]) := by
 unfold impl_FracNew at h
 refine en Tryz.func182 Tryz.ntmps182 ?_
 refine qs (qr (oB 2 [(4, .p 0 0)] [0, 1] [(133, (eFrac (Frac.mk 0 0)))] ?_))
 refine oe (nt (qs (qs ?_)))
 obtain ⟨p21, hE22, h23⟩ := bS h
 refine JC_cut (τ := Unit) (fun _ => [(0, vi x0), (1, vi x1), (4, .p 0 0), (17, vb p21)]) (fun _ => [(133, (eFrac (Frac.mk 0 0)))]) (fun _ => []) ?_ (fun _ => ?_)
 · refine qr (oN 3 [(8, vb (x1 == 0))] [4, 0, 1] ?_)
   refine oS 8 hE22 (fun h25 => ?_) (fun h26 => ?_)
   · refine oN 9 [(17, vb true)] [4, 0, 1] ?_
     refine oe ?_
     obtain rfl := sI h25
     exact mt () [0, 1, 4, 17] [] 1
   refine oN 1 [(9, vi x0)] [8, 4, 0, 1] ?_
   obtain ⟨t27, h28, h29⟩ := bS h26
   refine k0 (fun γ w hs => c_impl_within h28) ?_
   refine oN 3 [(13, vb (!t27))] [4, 0, 1] ?_
   refine oS 13 h29 (fun h32 => ?_) (fun h33 => ?_)
   · refine oN 4 [(17, vb true)] [4, 0, 1] ?_
     refine oe ?_
     obtain rfl := sI h32
     exact mt () [0, 1, 4, 17] [] 1
   refine oN 1 [(14, vi x1)] [13, 4, 0, 1] ?_
   obtain ⟨t34, h35, h36⟩ := bS h33
   refine k0 (fun γ w hs => c_impl_within h35) ?_
   refine oN 2 [(17, vb (!t34))] [4, 0, 1] ?_
   refine oe ?_
   obtain rfl := sI h36
   exact mt () [0, 1, 4, 17] [] 1
 refine nt (cC h23 (fun h39 => ?_) (fun h40 => ?_))
 · refine qs (qr (oN 3 [(5, vb false)] [4] ?_))
   refine oe (nt (qe (nr ?_)))
   obtain rfl := sI h39
   exact re [vFrac (Frac.mk 0 0), .bool false]
 refine qk (nt (qs (qr (oN 2 [(20, vi x1), (19, vi x0)] [4] ?_))))
 obtain ⟨t41, h42, h43⟩ := bS h40
 refine k0 (fun γ w hs => c_impl_reduced h42) ?_
 refine oB 4 [(5, vb t41.2)] [4] [(133, (eFrac t41.1))] ?_
 refine oe (nt (qe ?_))
 obtain rfl := sI h43
 exact re [vFrac t41.1, .bool t41.2]

theorem c_impl_IndexRatio {W : World} {x0 : Series} {a0_0 : Option Addr} {c0_0 : Nat} {x1 : Int} {x2 : Int} {x3 : Int} {r : Frac × Bool} (h : impl_IndexRatio x0 x1 x2 x3 = some r) (hv0_0 : SlView W x0.Points a0_0 c0_0) :
    Gives0 Tryz.prog 129 #[vSeries x0 (a0_0, c0_0), .int .i64 x1, .int .i64 x2, .int .i64 x3] W (.tuple #[vFrac r.1, .bool r.2]) := by
 unfold impl_IndexRatio at h
 refine en Tryz.func129 Tryz.ntmps129 ?_
 refine qs (qr (oB 3 [(8, .p 1 0), (4, .p 0 0)] [1, 2, 3] [(32, (eSeries x0 (a0_0, c0_0))), (133, (eFrac (Frac.mk 0 0)))] ?_))
 refine oe (nt (qs (qr (oN 3 [(17, vi x3), (16, vi x1), (15, .v (vSeries x0 (a0_0, c0_0)))] [8, 4, 2, 3] ?_))))
 obtain ⟨t21, h22, h23⟩ := bS h
 refine k0 (fun γ w hs => c_impl_IndexAt h22 (hv0_0.kept hs.kept)) ?_
 refine oN 5 [(11, vb t21.2), (10, vi t21.1)] [8, 4, 2, 3] ?_
 refine oe (nt (qs (qr (oN 3 [(24, vi x3), (23, vi x2), (22, .v (vSeries x0 (a0_0, c0_0)))] [11, 10, 8] ?_))))
 obtain ⟨t25, h26, h27⟩ := bS h23
 refine k0 (fun γ w hs => c_impl_IndexAt h26 (hv0_0.kept hs.kept)) ?_
 refine oN 5 [(13, vb t25.2), (12, vi t25.1)] [11, 10, 8] ?_
 refine oe (nt (qs (qs ?_)))
 obtain ⟨p29, hE30, h31⟩ := bS h27
 refine JC_cut (τ := Unit) (fun _ => [(8, .p 1 0), (10, vi t21.1), (12, vi t25.1), (33, vb p29)]) (fun _ => [(32, (eSeries x0 (a0_0, c0_0))), (133, (eFrac (Frac.mk 0 0)))]) (fun _ => []) ?_ (fun _ => ?_)
 · refine qr (oN 3 [(30, vb (!t21.2))] [13, 12, 10, 8] ?_)
   refine oS 30 hE30 (fun h33 => ?_) (fun h34 => ?_)
   · refine oN 3 [(33, vb true)] [12, 10, 8] ?_
     refine oe ?_
     obtain rfl := sI h33
     exact mt () [8, 10, 12, 33] [] 2
   refine oN 3 [(33, vb (!t25.2))] [12, 10, 8] ?_
   refine oe ?_
   obtain rfl := sI h34
   exact mt () [8, 10, 12, 33] [] 2
 refine nt (cC h31 (fun h36 => ?_) (fun h37 => ?_))
 · refine qs (qr (oN 3 [(9, vb false)] [8] ?_))
   refine oe (nt (qe (nr ?_)))
   obtain rfl := sI h36
   exact re [vFrac (Frac.mk 0 0), .bool false]
 refine qk (nt (qs (qr (oN 2 [(36, vi t21.1), (35, vi t25.1)] [8] ?_))))
 obtain ⟨t38, h39, h40⟩ := bS h37
 refine k0 (fun γ w hs => c_impl_FracNew h39) ?_
 refine oB 4 [(9, vb t38.2)] [8] [(32, (eSeries x0 (a0_0, c0_0))), (133, (eFrac t38.1))] ?_
 refine oe (nt (qe ?_))
 obtain rfl := sI h40
 exact re [vFrac t38.1, .bool t38.2]

/-- Which function value slices.Backward gives. -/
theorem back_Event_new (ad : Option Addr) (n cap : Nat) (w : World) : Calls Tryz.prog 183 #[.slice ad n cap] w fun e w' => e = .returned (.func (.func 201) #[] #[.pointer (some ⟨w.heap.size, 0, none⟩)]) ∧ w' = w.alloc (.cells #[.slice ad n cap] 34) := by
  refine (callsIn_wide (n := 5)).1 (callsIn_of_wp Tryz.func183 rfl trivial ?_ rfl)
  simp only [Tryz.ntmps183, List.size_toArray, List.length_cons, List.length_nil, Nat.reduceAdd, Nat.reduceSub, Array.replicate_succ, Array.replicate_zero, List.push_toArray, List.append_toArray, List.nil_append, List.cons_append]
  gi_wp2
  go_ret
  exact ⟨rfl, rfl⟩

set_option maxHeartbeats 1000000 in
/-- The iterator over a slice from its end. -/
theorem back_Event {W0 : World} {xs : List Event} {ad : Option Addr} {cap : Nat} (hv : SlView W0 xs ad cap) (hlen : xs.length ≤ 1099511627776) (m : Nat) (Bn : Nat) (w1 : World) (hb1 : Below W0.heap.size W0 w1) (hB0 : W0.heap.size ≤ Bn) (hbox : w1.heap[Bn]? = some (.cells #[.slice ad xs.length cap] 34 (0, 0))) :
    SeqStopsK Fence.wide m Tryz.prog 201 #[.pointer (some ⟨Bn, 0, none⟩)] (fun x : Int × Event => #[.int .i64 x.1, .agg #[.int .i64 x.2.Kind, .int .i64 x.2.Month]]) (KpB W0.heap.size Bn) (fun ys => ys.map (·.2) = xs.reverse) (fun pre => ∃ k, pre.map (·.2) = xs.reverse.take k) xs.length w1 := by
  intro l J Jx W hW hJ hJx hY h0
  have hbl := (Array.getElem?_eq_some_iff.1 hbox).1
  have hbW : W.heap[Bn]? = some (.cells #[.slice ad xs.length cap] 34 (0, 0)) := (hW.block Bn hbl).trans hbox
  have hBW : Below W0.heap.size W0 W := hb1.trans (hW.mono hb1.size)
  have hview : ∀ X, Below W0.heap.size W0 X → SlView X xs ad cap := fun X h => hv.stable (fun g hg => h.block g hg)
  refine callsIn_of_wp Tryz.func201 rfl trivial ?_ rfl
  rw [Tryz.ntmps201]
  refine (show JCI Fence.wide m Tryz.prog (fun _ => False) W [] 19 [] _ (argSV 0 [.v (.func (.yield l) #[] #[]), .q (some ⟨Bn, 0, none⟩) 0]) [] [] _ from ?_) [] _ W (live_args (args := [.func (.yield l) #[] #[], .pointer (some ⟨Bn, 0, none⟩)]) [.v (.func (.yield l) #[] #[]), .q (some ⟨Bn, 0, none⟩) 0] (by simp [SV.den]) rfl rfl) (sat_start W)
  refine JCI_seq ?_
  refine JCI_region ?_
  refine JOI_loadq wl_wide rfl rfl (by kernel_rfl) (t := 34) (d := some ⟨Bn, 0, none⟩) 0 0 (by kernel_rfl) (cs := [.slice ad xs.length cap]) (v := .slice ad xs.length cap) (fun γ w hs => ⟨by simp, (CellsAt.ofBox hbW).kept hs.kept⟩) (by kernel_rfl) (sl' := (4, .v (.slice ad xs.length cap)) :: [(0, .v (.func (.yield l) #[] #[])), (1, .q (some ⟨Bn, 0, none⟩) 0)]) (by kernel_rfl) ?_
  refine JOI_stepsK wl_wide 3 [3, 0, 1] (by kernel_rfl) (sl' := (3, .v (.int .i64 (w64 ((xs.length : Int) - 1)))) :: [(0, .v (.func (.yield l) #[] #[])), (1, .q (some ⟨Bn, 0, none⟩) 0)]) (bx' := []) (by kernel_rfl) ?_
  refine JOI_end (by kernel_rfl) ?_
  refine JEI_then ?_
  refine JCI_block ?_
  intro δ a w hl hs
  obtain rfl : δ = [] := List.length_eq_zero_iff.1 (by simpa using hs.len)
  refine wpIn_loop (fun a w => ∃ (pre : List (Int × Event)) (k : Nat), k ≤ xs.length ∧ pre.map (·.2) = xs.reverse.take (xs.length - k) ∧ LiveD [] 19 [] ((3, .v (.int .i64 ((k : Int) - 1))) :: [(0, .v (.func (.yield l) #[] #[])), (1, .q (some ⟨Bn, 0, none⟩) 0)]) a ∧ J pre w ∧ Below W0.heap.size W0 w ∧ w.heap[Bn]? = some (.cells #[.slice ad xs.length cap] 34 (0, 0)))
    (fun a w => mu3 a)
    ⟨[], xs.length, Nat.le_refl _, by simp, by rw [w64_id (by omega)] at hl; exact hl, abides_kept hJ h0 hs.kept, hBW.trans (hs.kept.below hBW.size), (hs.kept.block Bn (Array.getElem?_eq_some_iff.1 hbW).1 (fun x => x)).trans hbW⟩ ?_
  rintro a w ⟨pre, k, hk, hpre, hl, hJ1, hB1, hbx⟩
  have hmu : mu3 a = k := by
    rw [mu3_of hl rfl]
    omega
  rw [hmu]
  have hprel : pre.length = xs.length - k := by
    have := congrArg List.length hpre
    simpa using this
  refine (show JCI Fence.wide m Tryz.prog (fun _ => False) w [] 19 [] _ ((3, .v (.int .i64 ((k : Int) - 1))) :: [(0, .v (.func (.yield l) #[] #[])), (1, .q (some ⟨Bn, 0, none⟩) 0)]) [] [] _ from ?_) [] a w hl (sat_start w)
  refine JCI_seq ?_
  refine JCI_seq ?_
  refine JCI_region ?_
  refine JOI_stepsK wl_wide 2 [8, 3, 0, 1] (by kernel_rfl) (sl' := (8, .v (.bool (decide ((k : Int) - 1 ≥ 0)))) :: (3, .v (.int .i64 ((k : Int) - 1))) :: [(0, .v (.func (.yield l) #[] #[])), (1, .q (some ⟨Bn, 0, none⟩) 0)]) (bx' := []) (by kernel_rfl) ?_
  refine JOI_end (by kernel_rfl) ?_
  refine JEI_then ?_
  refine JCI_cond (decide ((k : Int) - 1 ≥ 0)) (by kernel_rfl) (fun hb => ?_) (fun hb => ?_)
  · have hk1 : 1 ≤ k := by have := of_decide_eq_true hb; omega
    obtain ⟨x, hx⟩ : ∃ x, xs[k - 1]? = some x := ⟨_, List.getElem?_eq_getElem (by omega)⟩
    have hidx : idx xs ((k : Int) - 1) = some x := by
      unfold idx
      rw [if_pos (by omega), show ((k : Int) - 1).toNat = k - 1 by omega]
      exact hx
    refine JCI_skip ?_
    refine JEI_then ?_
    refine JCI_seq ?_
    refine JCI_block ?_
    refine JCI_seq ?_
    refine JCI_region ?_
    refine JOI_stepsK wl_wide 2 [12, 11, 3, 0, 1] (by kernel_rfl) (sl' := (12, .v (.int .i64 ((k : Int) - 1))) :: (11, .v (.func (.yield l) #[] #[])) :: (3, .v (.int .i64 ((k : Int) - 1))) :: [(0, .v (.func (.yield l) #[] #[])), (1, .q (some ⟨Bn, 0, none⟩) 0)]) (bx' := []) (by kernel_rfl) ?_
    refine JOI_loadq wl_wide rfl rfl (by kernel_rfl) (t := 34) (d := some ⟨Bn, 0, none⟩) 0 0 (by kernel_rfl) (cs := [.slice ad xs.length cap]) (v := .slice ad xs.length cap) (fun γ w hs => ⟨by simp, (CellsAt.ofBox hbx).kept hs.kept⟩) (by kernel_rfl) (sl' := (13, .v (.slice ad xs.length cap)) :: (12, .v (.int .i64 ((k : Int) - 1))) :: (11, .v (.func (.yield l) #[] #[])) :: (3, .v (.int .i64 ((k : Int) - 1))) :: [(0, .v (.func (.yield l) #[] #[])), (1, .q (some ⟨Bn, 0, none⟩) 0)]) (by kernel_rfl) ?_
    refine JOI_stepsK wl_wide 1 [14, 13, 12, 11, 3, 0, 1] (by kernel_rfl) (sl' := (14, .v (.int .i64 ((k : Int) - 1))) :: (13, .v (.slice ad xs.length cap)) :: (12, .v (.int .i64 ((k : Int) - 1))) :: (11, .v (.func (.yield l) #[] #[])) :: (3, .v (.int .i64 ((k : Int) - 1))) :: [(0, .v (.func (.yield l) #[] #[])), (1, .q (some ⟨Bn, 0, none⟩) 0)]) (bx' := []) (by kernel_rfl) ?_
    refine JOI_index wl_wide rfl rfl (by kernel_rfl) (d := ad) (mm := xs.length) (j := (k : Int) - 1) (s := 2) (by kernel_rfl) (fun γ w' hs => (hview w hB1).kept hs.kept) rfl hidx (sl' := (15, .q ad (Int.toNat ((k : Int) - 1) * 2)) :: (14, .v (.int .i64 ((k : Int) - 1))) :: (13, .v (.slice ad xs.length cap)) :: (12, .v (.int .i64 ((k : Int) - 1))) :: (11, .v (.func (.yield l) #[] #[])) :: (3, .v (.int .i64 ((k : Int) - 1))) :: [(0, .v (.func (.yield l) #[] #[])), (1, .q (some ⟨Bn, 0, none⟩) 0)]) (by kernel_rfl) ?_
    refine JOI_loadq wl_wide rfl rfl (by kernel_rfl) (t := 158) (d := ad) (Int.toNat ((k : Int) - 1) * 2) 0 (by kernel_rfl) (cs := [.int .i64 x.Kind, .int .i64 x.Month]) (v := .agg #[.int .i64 x.Kind, .int .i64 x.Month]) (fun γ w' hs => ((hview w hB1).kept hs.kept).flatq hidx) (by kernel_rfl) (sl' := (16, .v (.agg #[.int .i64 x.Kind, .int .i64 x.Month])) :: (15, .q ad (Int.toNat ((k : Int) - 1) * 2)) :: (14, .v (.int .i64 ((k : Int) - 1))) :: (13, .v (.slice ad xs.length cap)) :: (12, .v (.int .i64 ((k : Int) - 1))) :: (11, .v (.func (.yield l) #[] #[])) :: (3, .v (.int .i64 ((k : Int) - 1))) :: [(0, .v (.func (.yield l) #[] #[])), (1, .q (some ⟨Bn, 0, none⟩) 0)]) (by kernel_rfl) ?_
    refine JOI_yield wl_wide rfl rfl (by kernel_rfl) rfl rfl (y := l) (by kernel_rfl) (args := [.int .i64 ((k : Int) - 1), .agg #[.int .i64 x.Kind, .int .i64 x.Month]]) (by kernel_rfl) rfl (by kernel_rfl) (fun γ w' hs => hY pre ((k : Int) - 1, x) w' (abides_kept hJ hJ1 hs.kept) (by omega)) ?_
    rintro γ w' hs e W3 (⟨rfl, hJ3, hk3⟩ | ⟨rfl, hJx3⟩)
    · refine ⟨true, rfl, fun a' hla => ?_⟩
      have hg0 : γ = [] := List.length_eq_zero_iff.1 (by simpa using hs.len)
      subst hg0
      have hBw' : Below W0.heap.size W0 w' := hB1.trans (hs.kept.below hB1.size)
      have hbx' : w'.heap[Bn]? = some (.cells #[.slice ad xs.length cap] 34 (0, 0)) := (hs.kept.block Bn (Array.getElem?_eq_some_iff.1 hbx).1 (fun x => x)).trans hbx
      have hB3 : Below W0.heap.size W0 W3 := hBw'.trans hk3.1
      have hbx3 : W3.heap[Bn]? = some (.cells #[.slice ad xs.length cap] 34 (0, 0)) := hk3.2.trans hbx'
      refine (show JOI Fence.wide m Tryz.prog (fun _ => False) W3 [] 19 [] _ _ _ [] [] _ from ?_) [] a' W3 hla (sat_start W3)
      refine JOI_stepsK wl_wide 1 [18, 3, 0, 1] (by kernel_rfl) (sl' := (18, .v (.bool false)) :: (3, .v (.int .i64 ((k : Int) - 1))) :: [(0, .v (.func (.yield l) #[] #[])), (1, .q (some ⟨Bn, 0, none⟩) 0)]) (bx' := []) (by kernel_rfl) ?_
      refine JOI_end (by kernel_rfl) ?_
      refine JEI_then ?_
      refine JCI_cond false (by kernel_rfl) (fun h => by cases h) (fun _ => ?_)
      refine JCI_skip ?_
      refine JEI_block_normal ?_
      refine JEI_then ?_
      refine JCI_region ?_
      refine JOI_stepsK wl_wide 3 [3, 0, 1] (by kernel_rfl) (sl' := (3, .v (.int .i64 (w64 ((k : Int) - 1 - 1)))) :: [(0, .v (.func (.yield l) #[] #[])), (1, .q (some ⟨Bn, 0, none⟩) 0)]) (bx' := []) (by kernel_rfl) ?_
      refine JOI_end (by kernel_rfl) ?_
      intro δ2 a2 w2 hl2 hs2
      obtain rfl : δ2 = [] := List.length_eq_zero_iff.1 (by simpa using hs2.len)
      have e1 : w64 ((k : Int) - 1 - 1) = ((k - 1 : Nat) : Int) - 1 := by rw [w64_id (by omega)]; omega
      rw [e1] at hl2
      refine ⟨⟨pre ++ [((k : Int) - 1, x)], k - 1, by omega, ?_, hl2, abides_kept hJ hJ3 hs2.kept, hB3.trans (hs2.kept.below hB3.size), (hs2.kept.block Bn (Array.getElem?_eq_some_iff.1 hbx3).1 (fun x => x)).trans hbx3⟩, ?_⟩
      · rw [List.map_append, hpre, show xs.length - (k - 1) = (xs.length - k) + 1 by omega, List.take_add_one, List.getElem?_reverse (by omega), show xs.length - 1 - (xs.length - k) = k - 1 by omega, hx]
        rfl
      · rw [mu3_of hl2 rfl]
        omega
    · refine ⟨false, rfl, fun a' hla => ?_⟩
      have hg0 : γ = [] := List.length_eq_zero_iff.1 (by simpa using hs.len)
      subst hg0
      refine (show JOI Fence.wide m Tryz.prog (fun _ => False) W3 [] 19 [] _ _ _ [] [] _ from ?_) [] a' W3 hla (sat_start W3)
      refine JOI_stepsK wl_wide 1 [18] (by kernel_rfl) (sl' := [(18, .v (.bool true))]) (bx' := []) (by kernel_rfl) ?_
      refine JOI_end (by kernel_rfl) ?_
      refine JEI_then ?_
      refine JCI_cond true (by kernel_rfl) (fun _ => ?_) (fun h => by cases h)
      refine JCI_ret ?_
      intro δ2 a2 w2 hl2 hs2
      have h9 := results_ok (P := Tryz.prog) (fn := Tryz.f201) (a := { a2 with defers := [] }) (vs := []) hl2.1 hs2 (by kernel_rfl)
      refine ⟨hl2.2, _, h9, ⟨_, rfl⟩, .inr ⟨pre ++ [((k : Int) - 1, x)], ⟨xs.length - (k - 1), ?_⟩, abides_kept hJx hJx3 hs2.kept⟩⟩
      rw [List.map_append, hpre, show xs.length - (k - 1) = (xs.length - k) + 1 by omega, List.take_add_one, List.getElem?_reverse (by omega), show xs.length - 1 - (xs.length - k) = k - 1 by omega, hx]
      rfl
  · have hk0 : k = 0 := by have := of_decide_eq_false hb; omega
    subst hk0
    refine JCI_exit ?_
    refine JEI_then_exit ?_
    refine JEI_then_exit ?_
    refine JEI_block_hit ?_
    intro δ2 a2 w2 hl2 hs2
    have h9 := results_ok (P := Tryz.prog) (fn := Tryz.f201) (a := { a2 with defers := [] }) (vs := []) hl2.1 hs2 (by kernel_rfl)
    refine ⟨hl2.2, _, h9, ⟨_, rfl⟩, .inl ⟨pre, ?_, abides_kept hJ hJ1 hs2.kept⟩⟩
    show pre.map (·.2) = xs.reverse
    rw [hpre, Nat.sub_zero, List.take_of_length_le (by simp)]

theorem c_impl_MonthOfKind {W : World} {x0 : List Event} {a0 : Option Addr} {c0 : Nat} {x1 : Int} {r : Int} (h : impl_MonthOfKind x0 x1 = some r) (hv : SlView W x0 a0 c0) :
    Gives0 Tryz.prog 130 #[.slice a0 x0.length c0, .int .i64 x1] W (.int .i64 r) := by
  unfold impl_MonthOfKind at h
  obtain ⟨t, ht, h⟩ := bS h
  refine enterMk (args := [.slice a0 x0.length c0, .int .i64 x1]) 9 Tryz.func130 rfl Tryz.ntmps130 (by kernel_rfl) ?_
  refine JCI_seq ?_
  refine JCI_region ?_
  refine JOI_stepsK wl_wide 2 [0, 3, 4] (by kernel_rfl) (sl' := [(0, .v (.slice a0 x0.length c0)), (3, .p 0 0), (4, .p 1 0)]) (bx' := [(3, [.int .i64 x1]), (3, [.int .i64 0])]) (by kernel_rfl) ?_
  refine JOI_end (by kernel_rfl) ?_
  refine JEI_then ?_
  refine JCI_seq ?_
  refine JCI_seq ?_
  refine JCI_region ?_
  refine JOI_stepsK wl_wide 1 [7, 0, 3, 4] (by kernel_rfl) (sl' := [(7, .v (.slice a0 x0.length c0)), (0, .v (.slice a0 x0.length c0)), (3, .p 0 0), (4, .p 1 0)]) (bx' := [(3, [.int .i64 x1]), (3, [.int .i64 0])]) (by kernel_rfl) ?_
  refine JOI_call0 wl_wide rfl rfl (by kernel_rfl) (f := 148) (args := #[.slice a0 x0.length c0]) (by kernel_rfl) (x := .bool t) (fun γ w hs => (by have vv := c_impl_EventsOk (W := w) ht (hv.kept hs.kept); exact vv)) (sl' := [(8, .v (.bool t)), (7, .v (.slice a0 x0.length c0)), (0, .v (.slice a0 x0.length c0)), (3, .p 0 0), (4, .p 1 0)]) (by kernel_rfl) ?_
  refine JOI_stepsK wl_wide 1 [9, 0, 3, 4] (by kernel_rfl) (sl' := [(9, .v (.bool (!t))), (0, .v (.slice a0 x0.length c0)), (3, .p 0 0), (4, .p 1 0)]) (bx' := [(3, [.int .i64 x1]), (3, [.int .i64 0])]) (by kernel_rfl) ?_
  refine JOI_end (by kernel_rfl) ?_
  refine JEI_then ?_
  refine JCI_cond (!t) (by kernel_rfl) (fun bt => ?_) (fun bt => ?_)
  · rw [bt] at h
    have hr : (-1 : Int) = r := Option.some.inj h
    subst hr
    refine JCI_seq ?_
    refine JCI_region ?_
    refine JOI_stepsK wl_wide 1 [4] (by kernel_rfl) (sl' := [(4, .p 1 0)]) (bx' := [(3, [.int .i64 x1]), (3, [.int .i64 (-1)])]) (by kernel_rfl) ?_
    refine JOI_end (by kernel_rfl) ?_
    refine JEI_then ?_
    refine JCI_ret ?_
    refine JEI_then_ret ?_
    exact JEI_ret0 (vs := [.int .i64 (-1)]) (by kernel_rfl) (fun γ w hs => ⟨rfl, hs.kept.toBelow⟩)
  rw [bt] at h
  refine JCI_skip ?_
  refine JEI_then ?_
  cases hlb : decide ((x0.length : Int) ≤ 1099511627776) with
  | false => rw [hlb] at h; cases h
  | true =>
  rw [hlb] at h
  have hlen : x0.length ≤ 1099511627776 := by have := of_decide_eq_true hlb; omega
  replace h := Option.some.inj h
  refine JCI_seq ?_
  refine JCI_seq ?_
  refine JCI_region ?_
  refine JOI_stepsK wl_wide 1 [10, 3, 4] (by kernel_rfl) (sl' := [(10, .v (.slice a0 x0.length c0)), (3, .p 0 0), (4, .p 1 0)]) (bx' := [(3, [.int .i64 x1]), (3, [.int .i64 0])]) (by kernel_rfl) ?_
  refine JOI_callbox wl_wide rfl rfl (by kernel_rfl) (f := 183) (gf := 201) (args := #[.slice a0 x0.length c0]) (by kernel_rfl) (e := 34) (cs := [.slice a0 x0.length c0]) (fun w => back_Event_new a0 x0.length c0 w) (sl' := [(11, .f 201 [(2, 0)]), (10, .v (.slice a0 x0.length c0)), (3, .p 0 0), (4, .p 1 0)]) (by kernel_rfl) ?_
  refine JOI_end (by kernel_rfl) ?_
  refine JEI_then ?_
  refine JCI_block ?_
  refine JCI_back (xs := x0) (kb := 2) (gf := 201) (slB := [(6, .p 3 0), (3, .p 0 0), (4, .p 1 0)]) (ad := a0) (cap := c0) (tS := 34) (tv := 158) (bx := [(3, [.int .i64 x1]), (3, [.int .i64 0]), (34, [.slice a0 x0.length c0])])
    (fun x => .agg #[.int .i64 x.Kind, .int .i64 x.Month]) (hitEvent x1) (fun v => [(3, [.int .i64 x1]), (3, [.int .i64 v]), (34, [.slice a0 x0.length c0])]) (by decide) (by kernel_rfl) rfl (Go.Proofs.enters_of Tryz.func201 (by kernel_rfl) rfl) (by kernel_rfl) (by kernel_rfl)
    (fun Bn w1 hb1 hB0 hbox => back_Event hv hlen 8 Bn w1 hb1 hB0 hbox) ?hA ?hB ?hdone ?hstop
  case hA =>
    intro l x W2 γ Q hγ hQ
    refine JCI_region ?_
    refine JOI_stepsK (wl_round l) 2 [6, 3, 4] (by kernel_rfl) (sl' := [(6, .p 3 0), (3, .p 0 0), (4, .p 1 0)]) (bx' := [(3, [.int .i64 x1]), (3, [.int .i64 0]), (34, [.slice a0 x0.length c0]), (158, [.int .i64 x.2.Kind, .int .i64 x.2.Month])]) (by kernel_rfl) ?_
    refine JOI_end (by kernel_rfl) ?_
    intro δ a w hl hs
    have hδ : δ.length = 1 := by have := hs.len; simp only [List.length_append, hγ] at this; simp at this; omega
    obtain ⟨gx, rfl⟩ := List.length_eq_one_iff.1 hδ
    exact hQ gx a w hl hs
  case hB =>
    intro l x W2 γ hγ
    refine JCI_block ?_
    refine JCI_seq ?_
    refine JCI_region ?_
    refine JOI_stepsK (wl_round l) 4 [17, 6, 3, 4] (by kernel_rfl) (sl' := [(17, .v (.bool (x.Kind == x1))), (6, .p 3 0), (3, .p 0 0), (4, .p 1 0)]) (bx' := [(3, [.int .i64 x1]), (3, [.int .i64 0]), (34, [.slice a0 x0.length c0]), (158, [.int .i64 x.Kind, .int .i64 x.Month])]) (by kernel_rfl) ?_
    refine JOI_end (by kernel_rfl) ?_
    refine JEI_then ?_
    refine JCI_cond (x.Kind == x1) rfl (fun b1 => ?_) (fun b1 => ?_)
    · refine JCI_seq ?_
      refine JCI_region ?_
      refine JOI_stepsK (wl_round l) 3 [4] (by kernel_rfl) (sl' := [(4, .p 1 0)]) (bx' := [(3, [.int .i64 x1]), (3, [.int .i64 x.Month]), (34, [.slice a0 x0.length c0]), (158, [.int .i64 x.Kind, .int .i64 x.Month])]) (by kernel_rfl) ?_
      refine JOI_end (by kernel_rfl) ?_
      refine JEI_then ?_
      refine JCI_ret ?_
      refine JEI_block_ret ?_
      exact fun δ a w hl hs => ⟨x.Month, by simp [hitEvent, b1], δ, _, rfl, hs⟩
    · refine JCI_skip ?_
      refine JEI_block_normal ?_
      exact fun δ a w hl hs => ⟨by simp [hitEvent, b1], δ, _, rfl, hs⟩
  case hdone =>
    intro hn D W2 γ hD hK hs0
    rw [hn] at h
    have hr : (-1 : Int) = r := h
    subst hr
    refine JEI_block_normal ?_
    refine JEI_then ?_
    refine JCI_seq ?_
    refine JCI_region ?_
    refine JOI_stepsK wl_wide 1 [4] (by kernel_rfl) (sl' := [(4, .p 1 0)]) (bx' := [(3, [.int .i64 x1]), (3, [.int .i64 (-1)]), (34, [.slice a0 x0.length c0])]) (by kernel_rfl) ?_
    refine JOI_end (by kernel_rfl) ?_
    refine JEI_then ?_
    refine JCI_ret ?_
    exact JEI_retM (vs := [.int .i64 (-1)]) (by kernel_rfl) hD hK hs0 (fun w' hb => ⟨rfl, hb⟩)
  case hstop =>
    intro v hn D W2 γ hD hK hs0
    rw [hn] at h
    have hr : v = r := h
    subst hr
    refine JEI_block_ret ?_
    refine JEI_then_ret ?_
    exact JEI_retM (vs := [.int .i64 v]) (by kernel_rfl) hD hK hs0 (fun w' hb => ⟨rfl, hb⟩)


theorem c_impl_allWithin_1 {W : World} {x0 : Int} {gf_0 : Nat} {zf_0 : Int} {gf_1 : Nat} {zf_1 : Int} {r : Bool} (h : impl_allWithin_1 x0 zf_0 zf_1 = some r) (hcf_0 : CellsAt W (some ⟨gf_0, 0, none⟩) 0 [.int .i64 zf_0]) (hcf_1 : CellsAt W (some ⟨gf_1, 0, none⟩) 0 [.int .i64 zf_1]) :
    Gives0 Tryz.prog 100 #[.int .i64 x0, .pointer (some ⟨gf_0, 0, none⟩), .pointer (some ⟨gf_1, 0, none⟩)] W (.bool r) := by
 unfold impl_allWithin_1 at h
 refine enterD [vi x0, .q (some ⟨gf_0, 0, none⟩) (0), .q (some ⟨gf_1, 0, none⟩) (0)] (args := [.int .i64 x0, .pointer (some ⟨gf_0, 0, none⟩), .pointer (some ⟨gf_1, 0, none⟩)]) (by kernel_rfl) (by kernel_rfl) Tryz.func100 rfl Tryz.ntmps100 (by kernel_rfl) ?_
 refine qs (qr (oN 1 [] [0, 1, 2] ?_))
 refine oe (nt (qs (qr (oN 1 [(5, vi x0)] [1, 2] ?_))))
 refine ol 3 0 (.int .i64 zf_0) (fun γ w hs => ⟨by simp, hcf_0.kept hs.kept⟩) ?_
 refine ol 3 0 (.int .i64 zf_1) (fun γ w hs => ⟨by simp, hcf_1.kept hs.kept⟩) ?_
 obtain ⟨t21, h22, h23⟩ := bS h
 refine k0 (fun γ w hs => c_impl_within h22) ?_
 refine oN 2 [(4, vb (!t21))] [] ?_
 refine oe (nt (qe ?_))
 obtain rfl := sI h23
 exact re [.bool (!t21)]

theorem c_slices_IndexFunc_int__impl_allWithin_1 {W : World} {x0 : List Int} {a0_0 : Option Addr} {c0_0 : Nat} {g1_0 : Nat} {z1_0 : Int} {g1_1 : Nat} {z1_1 : Int} {r : Int} (h : slices_IndexFunc_int__impl_allWithin_1 x0 z1_0 z1_1 = some r) (hv0_0 : SlView W x0 a0_0 c0_0) (hc1_0 : CellsAt W (some ⟨g1_0, 0, none⟩) 0 [.int .i64 z1_0]) (hc1_1 : CellsAt W (some ⟨g1_1, 0, none⟩) 0 [.int .i64 z1_1]) :
    Gives0 Tryz.prog 149 #[.slice a0_0 x0.length c0_0, .func (.func 100) #[] #[.pointer (some ⟨g1_0, 0, none⟩), .pointer (some ⟨g1_1, 0, none⟩)]] W (.int .i64 r) := by
 unfold slices_IndexFunc_int__impl_allWithin_1 at h
 refine en Tryz.func149 Tryz.ntmps149 ?_
 refine qs (qr (oN 1 [] [0, 1] ?_))
 refine oe (nt (qs (qs (qr (oN 3 [(8, vi 0), (7, vi (x0.length : Int))] [0, 1] ?_)))))
 refine oe (nt ?_)
 obtain ⟨r24, hL25, h26⟩ := bS h
 obtain ⟨k27, hk28, h26⟩ := brkS h26
 refine JC_cutP (τ := (Unit) × (Unit)) (fun y => k27 y.1 = some r) (fun y32 => []) (fun y32 => []) (fun y32 => []) ?_ (fun y32 h33p => ?_)
 · refine qb (lp Unit hL25 (fun s21 y22 => [(8, vi s21), (7, vi (x0.length : Int)), (0, .v (.slice a0_0 x0.length c0_0)), (1, .v (.func (.func 100) #[] #[.pointer (some ⟨g1_0, 0, none⟩), .pointer (some ⟨g1_1, 0, none⟩)]))]) (fun s21 y22 => []) (fun s21 y22 => []) () [8, 7, 0, 1] [] 0 (fun s21 y22 t23 h29 hd30 => ?_))
   refine qs (qr (oN 1 [(9, vb (decide (s21 < (x0.length : Int))))] [8, 7, 0, 1] ?_))
   refine oe (nt (qs (cC h29 (fun h35 => ?_) (fun h36 => ?_))))
   · refine qk (nt (qs (qb (qs (qr (oN 2 [(5, vi s21)] [8, 7, 0, 1] ?_))))))
     refine oe (nt (qs (qr (oN 3 [(13, vi s21), (12, .v (.slice a0_0 x0.length c0_0)), (11, .v (.func (.func 100) #[] #[.pointer (some ⟨g1_0, 0, none⟩), .pointer (some ⟨g1_1, 0, none⟩)]))] [5, 8, 7, 0, 1] ?_))))
     obtain ⟨x37, hx38, h39⟩ := bS h35
     refine oi 1 (fun γ w hs => (hv0_0.kept hs.kept)) hx38 ?_
     refine ol 3 0 (.int .i64 x37) (fun γ w hs => (hv0_0.kept hs.kept).flatq hx38) ?_
     obtain ⟨t40, h41, h42⟩ := bS h39
     refine k0 (fun γ w hs => c_impl_allWithin_1 h41 (hc1_0.kept hs.kept) (hc1_1.kept hs.kept)) ?_
     refine oe (nt (cC h42 (fun h45 => ?_) (fun h46 => ?_)))
     · refine qs (qr (oN 2 [(4, vi s21)] [] ?_))
       refine oe (nt (qe (br (nr (nr ?_)))))
       have h47 := leafR hd30 h45 h26
       refine br (nr (nr ?_))
       obtain rfl := sI h47
       exact re [.int .i64 s21]
     refine qk (bn (nt (qr (oN 2 [(8, vi (w64 (s21 + 1)))] [7, 0, 1] ?_))))
     exact oe (ct h46 () [8, 7, 0, 1] [] 0)
   refine qx (nx (nx (bh ?_)))
   have h48 := leafB hd30 h36 h26
   exact mp ((), ()) h48 [] [] 0
 have h33 := (congrFun hk28 _).symm.trans h33p
 refine nt (qs (qr (oN 1 [(4, vi (-1))] [] ?_)))
 refine oe (nt (qe ?_))
 obtain rfl := sI h33
 exact re [.int .i64 (-1)]

theorem c_slices_ContainsFunc_int__impl_allWithin_1 {W : World} {x0 : List Int} {a0_0 : Option Addr} {c0_0 : Nat} {g1_0 : Nat} {z1_0 : Int} {g1_1 : Nat} {z1_1 : Int} {r : Bool} (h : slices_ContainsFunc_int__impl_allWithin_1 x0 z1_0 z1_1 = some r) (hv0_0 : SlView W x0 a0_0 c0_0) (hc1_0 : CellsAt W (some ⟨g1_0, 0, none⟩) 0 [.int .i64 z1_0]) (hc1_1 : CellsAt W (some ⟨g1_1, 0, none⟩) 0 [.int .i64 z1_1]) :
    Gives0 Tryz.prog 99 #[.slice a0_0 x0.length c0_0, .func (.func 100) #[] #[.pointer (some ⟨g1_0, 0, none⟩), .pointer (some ⟨g1_1, 0, none⟩)]] W (.bool r) := by
 unfold slices_ContainsFunc_int__impl_allWithin_1 at h
 refine en Tryz.func99 Tryz.ntmps99 ?_
 refine qs (qr (oN 1 [] [0, 1] ?_))
 refine oe (nt (qs (qr (oN 2 [(6, .v (.func (.func 100) #[] #[.pointer (some ⟨g1_0, 0, none⟩), .pointer (some ⟨g1_1, 0, none⟩)])), (5, .v (.slice a0_0 x0.length c0_0))] [] ?_))))
 obtain ⟨t21, h22, h23⟩ := bS h
 refine k0 (fun γ w hs => c_slices_IndexFunc_int__impl_allWithin_1 h22 (hv0_0.kept hs.kept) (hc1_0.kept hs.kept) (hc1_1.kept hs.kept)) ?_
 refine oN 2 [(4, vb (decide (t21 ≥ 0)))] [] ?_
 refine oe (nt (qe ?_))
 obtain rfl := sI h23
 exact re [.bool (decide (t21 ≥ 0))]

theorem c_impl_allWithin {W : World} {x0 : List Int} {a0_0 : Option Addr} {c0_0 : Nat} {x1 : Int} {x2 : Int} {r : Bool} (h : impl_allWithin x0 x1 x2 = some r) (hv0_0 : SlView W x0 a0_0 c0_0) :
    Gives0 Tryz.prog 57 #[.slice a0_0 x0.length c0_0, .int .i64 x1, .int .i64 x2] W (.bool r) := by
 unfold impl_allWithin at h
 refine en Tryz.func57 Tryz.ntmps57 ?_
 refine qs (qr (oB 3 [(5, .p 1 0), (4, .p 0 0)] [0] [(3, [.int .i64 x1]), (3, [.int .i64 x2])] ?_))
 refine oe (nt (qs (qr (oN 1 [(7, .v (.slice a0_0 x0.length c0_0))] [5, 4] ?_))))
 refine JO_mkfunc rfl (by kernel_rfl) (x := .f 100 [(0, 0), (1, 0)]) (by kernel_rfl) rfl ?_
 obtain ⟨t21, h22, h23⟩ := bS h
 refine JO_callD0 rfl (by kernel_rfl) (f := 99) (args := fun γ => #[.slice a0_0 x0.length c0_0, .func (.func 100) #[] #[.pointer (some ⟨γ.getD 0 0, 0, none⟩), .pointer (some ⟨γ.getD 1 0, 0, none⟩)]]) (fun γ => by kernel_rfl) (x := .bool t21) (fun γ w hs => (by have vv := c_slices_ContainsFunc_int__impl_allWithin_1 (W := w) h22 (hv0_0.kept hs.kept) (hs.boxCells (k := 0) (e := 3) (by kernel_rfl)) (hs.boxCells (k := 1) (e := 3) (by kernel_rfl)); exact vv)) rfl ?_
 refine oN 2 [(6, vb (!t21))] [] ?_
 refine oe (nt (qe ?_))
 obtain rfl := sI h23
 exact re [.bool (!t21)]

theorem c_impl_MonthsIn {W : World} {x0 : Int} {x1 : Int} {x2 : Int} {x3 : Int} {r : Int} (h : impl_MonthsIn x0 x1 x2 x3 = some r)  :
    Gives0 Tryz.prog 185 #[.int .i64 x0, .int .i64 x1, .int .i64 x2, .int .i64 x3] W (.int .i64 r) := by
 unfold impl_MonthsIn at h
 refine en Tryz.func185 Tryz.ntmps185 ?_
 refine qs (qr (oN 1 [] [0, 1, 2, 3] ?_))
 refine oe (nt (qs (qs (qr (oN 4 [(12, vi x3), (11, vi x2), (10, vi x1), (9, vi x0)] [0, 1, 2, 3] ?_)))))
 refine ob [] [] 3 4 [.int .i64 x0, .int .i64 x1, .int .i64 x2, .int .i64 x3] ([x0, x1, x2, x3] : List Int) (own_flat (by kernel_rfl)) (fun y21 => ?_)
 obtain ⟨t23, h24, h25⟩ := bS h
 refine k0 (fun γ w hs => c_impl_allWithin h24 (hs.view 0 rfl)) ?_
 refine oN 1 [(15, vb (!t23))] [0, 1, 2, 3] ?_
 refine oe (nt (cC h25 (fun h28 => ?_) (fun h29 => ?_)))
 · refine qs (qr (oN 1 [(8, vi 0)] [] ?_))
   refine oe (nt (qe (nr ?_)))
   obtain rfl := sI h28
   exact re [.int .i64 0]
 refine qk (nt (qs (qr (oN 9 [(8, vi (imax 0 (w64 ((imin x1 x3) - (imax x0 x2)))))] [] ?_))))
 refine oe (nt (qe ?_))
 obtain rfl := sI h29
 exact re [.int .i64 (imax 0 (w64 ((imin x1 x3) - (imax x0 x2))))]

theorem c_impl_ServiceIn {W : World} {x0 : List Spell} {a0_0 : Option Addr} {c0_0 : Nat} {x1 : Int} {x2 : Int} {r : Int} (h : impl_ServiceIn x0 x1 x2 = some r) (hv0_0 : SlView W x0 a0_0 c0_0) :
    Gives0 Tryz.prog 132 #[.slice a0_0 x0.length c0_0, .int .i64 x1, .int .i64 x2] W (.int .i64 r) := by
 unfold impl_ServiceIn at h
 refine en Tryz.func132 Tryz.ntmps132 ?_
 refine qs (qr (oN 1 [] [0, 1, 2] ?_))
 refine oe (nt (qs (qs ?_)))
 obtain ⟨p21, hE22, h23⟩ := bS h
 refine JC_cut (τ := Unit) (fun _ => [(0, .v (.slice a0_0 x0.length c0_0)), (1, vi x1), (2, vi x2), (22, vb p21)]) (fun _ => []) (fun _ => []) ?_ (fun _ => ?_)
 · refine qr (oN 1 [(10, .v (.slice a0_0 x0.length c0_0))] [0, 1, 2] ?_)
   obtain ⟨t24, h25, h26⟩ := bS hE22
   refine k0 (fun γ w hs => c_impl_SpellsOk h25 (hv0_0.kept hs.kept)) ?_
   refine oN 2 [(13, vb (!t24))] [0, 1, 2] ?_
   refine oS 13 h26 (fun h29 => ?_) (fun h30 => ?_)
   · refine oN 9 [(22, vb true)] [0, 1, 2] ?_
     refine oe ?_
     obtain rfl := sI h29
     exact mt () [0, 1, 2, 22] [] 0
   refine oN 1 [(14, vi x1)] [13, 0, 1, 2] ?_
   obtain ⟨t31, h32, h33⟩ := bS h30
   refine k0 (fun γ w hs => c_impl_isEnd h32) ?_
   refine oN 3 [(18, vb (!t31))] [0, 1, 2] ?_
   refine oS 18 h33 (fun h36 => ?_) (fun h37 => ?_)
   · refine oN 4 [(22, vb true)] [0, 1, 2] ?_
     refine oe ?_
     obtain rfl := sI h36
     exact mt () [0, 1, 2, 22] [] 0
   refine oN 1 [(19, vi x2)] [18, 0, 1, 2] ?_
   obtain ⟨t38, h39, h40⟩ := bS h37
   refine k0 (fun γ w hs => c_impl_isEnd h39) ?_
   refine oN 2 [(22, vb (!t38))] [0, 1, 2] ?_
   refine oe ?_
   obtain rfl := sI h40
   exact mt () [0, 1, 2, 22] [] 0
 refine nt (cC h23 (fun h43 => ?_) (fun h44 => ?_))
 · refine qs (qr (oN 1 [(6, vi 0)] [] ?_))
   refine oe (nt (qe (nr ?_)))
   obtain rfl := sI h43
   exact re [.int .i64 0]
 refine qk (nt (qs (qr (oN 1 [(7, vi 0)] [0, 1, 2] ?_))))
 refine oe (nt (qs (qs (qr (oN 3 [(25, vi 0), (24, vi (x0.length : Int)), (23, .v (.slice a0_0 x0.length c0_0))] [7, 1, 2] ?_)))))
 refine oe (nt ?_)
 obtain ⟨r48, hL49, h50⟩ := bS h44
 obtain ⟨k51, hk52, h50⟩ := brkS h50
 refine JC_cutP (τ := (Int) × (Unit)) (fun y => k51 y.1 = some r) (fun y56 => [(7, vi y56.1)]) (fun y56 => []) (fun y56 => []) ?_ (fun y56 h57p => ?_)
 · refine qb (lp Unit hL49 (fun s45 y46 => [(25, vi s45.1), (24, vi (x0.length : Int)), (23, .v (.slice a0_0 x0.length c0_0)), (7, vi s45.2), (1, vi x1), (2, vi x2)]) (fun s45 y46 => []) (fun s45 y46 => []) () [25, 24, 23, 7, 1, 2] [] 0 (fun s45 y46 t47 h53 hd54 => ?_))
   refine qs (qr (oN 1 [(26, vb (decide (s45.1 < (x0.length : Int))))] [25, 24, 23, 7, 1, 2] ?_))
   refine oe (nt (qs (cC h53 (fun h59 => ?_) (fun h60 => ?_))))
   · refine qk (nt (qs (qb (qs (qr ?_)))))
     obtain ⟨x61, hx62, h63⟩ := bS h59
     refine oi 4 (fun γ w hs => (hv0_0.kept hs.kept)) hx62 ?_
     refine ol 156 0 (vSpell x61) (fun γ w hs => (hv0_0.kept hs.kept).flatq hx62) ?_
     refine oB 2 [(9, .p 0 0)] [25, 24, 23, 7, 1, 2] [(156, (eSpell x61))] ?_
     refine oe (nt (qs (qr (oN 3 [(31, vb (!x61.Leave))] [9, 25, 24, 23, 7, 1, 2] ?_))))
     refine oe (nt ?_)
     obtain ⟨k71, hk72, h74⟩ := jS h63
     refine JC_cutP (τ := (Int) × (Unit)) (fun y => k71 y.1 = some t47) (fun y70 => [(25, vi s45.1), (24, vi (x0.length : Int)), (23, .v (.slice a0_0 x0.length c0_0)), (7, vi y70.1), (1, vi x1), (2, vi x2)]) (fun y70 => [(156, (eSpell x61))]) (fun y70 => []) ?_ (fun y70 h73p => ?_)
     · refine cC h74 (fun h76 => ?_) (fun h77 => ?_)
       · refine JC_quiet (by kernel_rfl) (by kernel_rfl) ?_
         refine qN 9 [(40, vi x61.To), (38, vi x61.From), (36, vi x2), (35, vi x1), (34, vi x61.Percent), (32, vi s45.2)] [25, 24, 23, 1, 2] ?_
         obtain ⟨t78, h79, h80⟩ := bS h76
         refine q0 (fun γ w hs => c_impl_MonthsIn h79) ?_
         refine qN 3 [(7, vi (w64 (s45.2 + (w64 (x61.Percent * t78)))))] [25, 24, 23, 1, 2] ?_
         exact qz (mp (w64 (s45.2 + (w64 (x61.Percent * t78))), ()) h80 [25, 24, 23, 7, 1, 2] [] 1)
       exact qk (mp (s45.2, ()) h77 [25, 24, 23, 7, 1, 2] [] 1)
     have h73 := (congrFun hk72 _).symm.trans h73p
     refine bn (nt (qr (oN 2 [(25, vi (w64 (s45.1 + 1)))] [24, 23, 7, 1, 2] ?_)))
     exact oe (ct h73 () [25, 24, 23, 7, 1, 2] [] 0)
   refine qx (nx (nx (bh ?_)))
   have h82 := leafB hd54 h60 h50
   exact mp (s45.2, ()) h82 [7] [] 0
 have h57 := (congrFun hk52 _).symm.trans h57p
 refine nt (qs (qr (oN 2 [(6, vi y56.1)] [] ?_)))
 refine oe (nt (qe ?_))
 obtain rfl := sI h57
 exact re [.int .i64 y56.1]

theorem c_impl_whole {W : World} {x0 : Int} {r : Frac} (h : impl_whole x0 = some r)  :
    Gives0 Tryz.prog 133 #[.int .i64 x0] W (vFrac r) := by
 unfold impl_whole at h
 refine en Tryz.func133 Tryz.ntmps133 ?_
 refine qs (qr (oB 1 [(2, .p 0 0)] [0] [(133, (eFrac (Frac.mk 0 0)))] ?_))
 refine oe (nt (qs (qr (oB 3 [] [2] [(133, (eFrac (Frac.mk x0 1)))] ?_))))
 refine oe (nt (qe ?_))
 obtain rfl := sI h
 exact re [vFrac (Frac.mk x0 1)]

theorem c_impl_AgeAt {W : World} {x0 : Int} {x1 : Int} {x2 : Int} {r : Int} (h : impl_AgeAt x0 x1 x2 = some r)  :
    Gives0 Tryz.prog 134 #[.int .i64 x0, .int .i64 x1, .int .i64 x2] W (.int .i64 r) := by
 unfold impl_AgeAt at h
 refine en Tryz.func134 Tryz.ntmps134 ?_
 refine qs (qr (oN 1 [] [0, 1, 2] ?_))
 refine oe (nt (qs (qs ?_)))
 obtain ⟨p21, hE22, h23⟩ := bS h
 refine JC_cut (τ := Unit) (fun _ => [(0, vi x0), (1, vi x1), (2, vi x2), (20, vb p21)]) (fun _ => []) (fun _ => []) ?_ (fun _ => ?_)
 · refine qr (oN 1 [(8, vi x0)] [0, 1, 2] ?_)
   obtain ⟨t24, h25, h26⟩ := bS hE22
   refine k0 (fun γ w hs => c_impl_MonthOk h25) ?_
   refine oN 2 [(11, vb (!t24))] [0, 1, 2] ?_
   refine oS 11 h26 (fun h29 => ?_) (fun h30 => ?_)
   · refine oN 9 [(20, vb true)] [0, 1, 2] ?_
     refine oe ?_
     obtain rfl := sI h29
     exact mt () [0, 1, 2, 20] [] 0
   refine oN 1 [(12, vi x1)] [11, 0, 1, 2] ?_
   obtain ⟨t31, h32, h33⟩ := bS h30
   refine k0 (fun γ w hs => c_impl_MonthOk h32) ?_
   refine oN 3 [(16, vb (!t31))] [0, 1, 2] ?_
   refine oS 16 h33 (fun h36 => ?_) (fun h37 => ?_)
   · refine oN 4 [(20, vb true)] [0, 1, 2] ?_
     refine oe ?_
     obtain rfl := sI h36
     exact mt () [0, 1, 2, 20] [] 0
   refine oN 4 [(20, vb (decide (x1 < x0)))] [0, 1, 2] ?_
   refine oe ?_
   obtain rfl := sI h37
   exact mt () [0, 1, 2, 20] [] 0
 refine nt (cC h23 (fun h39 => ?_) (fun h40 => ?_))
 · refine qs (qr (oN 1 [(6, vi (-1))] [] ?_))
   refine oe (nt (qe (nr ?_)))
   obtain rfl := sI h39
   exact re [.int .i64 (-1)]
 refine qk (nt (qs (qr (oN 4 [(7, vi (w64 (x1 - x0)))] [2] ?_))))
 refine oe (nt (qs (qs (qr (oN 1 [(24, vi x2)] [7] ?_)))))
 refine oe (nt (qb (qs (qr (oN 2 [(25, vb (x2 == 1))] [24, 7] ?_)))))
 refine oe (nt (cC h40 (fun h48 => ?_) (fun h49 => ?_)))
 · refine qs (qr (oN 3 [(6, vi (w64 (Int.tdiv (w64 (x1 - x0)) 12)))] [] ?_))
   refine oe (nt (qe (br (nr ?_))))
   obtain rfl := sI h48
   exact re [.int .i64 (w64 (Int.tdiv (w64 (x1 - x0)) 12))]
 refine qs (qr (oN 2 [(29, vb (x2 == 2))] [24, 7] ?_))
 refine oe (nt (cC h49 (fun h54 => ?_) (fun h55 => ?_)))
 · refine qs (qr (oN 4 [(6, vi (w64 (Int.tdiv (w64 ((w64 (x1 - x0)) + 6)) 12)))] [] ?_))
   refine oe (nt (qe (br (nr ?_))))
   obtain rfl := sI h54
   exact re [.int .i64 (w64 (Int.tdiv (w64 ((w64 (x1 - x0)) + 6)) 12))]
 refine qs (qr (oN 2 [(34, vb (x2 == 3))] [7] ?_))
 refine oe (nt (cC h55 (fun h57 => ?_) (fun h58 => ?_)))
 · refine qs (qr (oN 4 [(6, vi (w64 ((w64 (Int.tdiv (w64 (x1 - x0)) 12)) + 1)))] [] ?_))
   refine oe (nt (qe (br (nr ?_))))
   obtain rfl := sI h57
   exact re [.int .i64 (w64 ((w64 (Int.tdiv (w64 (x1 - x0)) 12)) + 1))]
 refine qk (bn (nt (qs (qr (oN 1 [(6, vi (-1))] [] ?_)))))
 refine oe (nt (qe ?_))
 obtain rfl := sI h58
 exact re [.int .i64 (-1)]

theorem c_impl_VarsFor_1 {W : World} {x0 : Frac} {r : Bool} (h : impl_VarsFor_1 x0 = some r)  :
    Gives0 Tryz.prog 136 #[vFrac x0] W (.bool r) := by
 unfold impl_VarsFor_1 at h
 refine en Tryz.func136 Tryz.ntmps136 ?_
 refine qs (qr (oB 2 [(1, .p 0 0)] [] [(133, (eFrac x0))] ?_))
 refine oe (nt (qs (qr (oN 1 [(3, .v (vFrac x0))] [] ?_))))
 obtain ⟨t21, h22, h23⟩ := bS h
 refine k0 (fun γ w hs => c_impl_FracOk h22) ?_
 refine oN 2 [(2, vb (!t21))] [] ?_
 refine oe (nt (qe ?_))
 obtain rfl := sI h23
 exact re [.bool (!t21)]

theorem c_slices_IndexFunc_Frac__impl_VarsFor_1 {W : World} {x0 : List Frac} {a0_0 : Option Addr} {c0_0 : Nat} {r : Int} (h : slices_IndexFunc_Frac__impl_VarsFor_1 x0 = some r) (hv0_0 : SlView W x0 a0_0 c0_0) :
    Gives0 Tryz.prog 186 #[.slice a0_0 x0.length c0_0, .func (.func 136) #[] #[]] W (.int .i64 r) := by
 unfold slices_IndexFunc_Frac__impl_VarsFor_1 at h
 refine en Tryz.func186 Tryz.ntmps186 ?_
 refine qs (qr (oN 1 [] [0, 1] ?_))
 refine oe (nt (qs (qs (qr (oN 3 [(8, vi 0), (7, vi (x0.length : Int))] [0, 1] ?_)))))
 refine oe (nt ?_)
 obtain ⟨r24, hL25, h26⟩ := bS h
 obtain ⟨k27, hk28, h26⟩ := brkS h26
 refine JC_cutP (τ := (Unit) × (Unit)) (fun y => k27 y.1 = some r) (fun y32 => []) (fun y32 => []) (fun y32 => []) ?_ (fun y32 h33p => ?_)
 · refine qb (lp Unit hL25 (fun s21 y22 => [(8, vi s21), (7, vi (x0.length : Int)), (0, .v (.slice a0_0 x0.length c0_0)), (1, .v (.func (.func 136) #[] #[]))]) (fun s21 y22 => []) (fun s21 y22 => []) () [8, 7, 0, 1] [] 0 (fun s21 y22 t23 h29 hd30 => ?_))
   refine qs (qr (oN 1 [(9, vb (decide (s21 < (x0.length : Int))))] [8, 7, 0, 1] ?_))
   refine oe (nt (qs (cC h29 (fun h35 => ?_) (fun h36 => ?_))))
   · refine qk (nt (qs (qb (qs (qr (oN 2 [(5, vi s21)] [8, 7, 0, 1] ?_))))))
     refine oe (nt (qs (qr (oN 3 [(13, vi s21), (12, .v (.slice a0_0 x0.length c0_0)), (11, .v (.func (.func 136) #[] #[]))] [5, 8, 7, 0, 1] ?_))))
     obtain ⟨x37, hx38, h39⟩ := bS h35
     refine oi 2 (fun γ w hs => (hv0_0.kept hs.kept)) hx38 ?_
     refine ol 133 0 (vFrac x37) (fun γ w hs => (hv0_0.kept hs.kept).flatq hx38) ?_
     obtain ⟨t40, h41, h42⟩ := bS h39
     refine k0 (fun γ w hs => c_impl_VarsFor_1 h41) ?_
     refine oe (nt (cC h42 (fun h45 => ?_) (fun h46 => ?_)))
     · refine qs (qr (oN 2 [(4, vi s21)] [] ?_))
       refine oe (nt (qe (br (nr (nr ?_)))))
       have h47 := leafR hd30 h45 h26
       refine br (nr (nr ?_))
       obtain rfl := sI h47
       exact re [.int .i64 s21]
     refine qk (bn (nt (qr (oN 2 [(8, vi (w64 (s21 + 1)))] [7, 0, 1] ?_))))
     exact oe (ct h46 () [8, 7, 0, 1] [] 0)
   refine qx (nx (nx (bh ?_)))
   have h48 := leafB hd30 h36 h26
   exact mp ((), ()) h48 [] [] 0
 have h33 := (congrFun hk28 _).symm.trans h33p
 refine nt (qs (qr (oN 1 [(4, vi (-1))] [] ?_)))
 refine oe (nt (qe ?_))
 obtain rfl := sI h33
 exact re [.int .i64 (-1)]

theorem c_slices_ContainsFunc_Frac__impl_VarsFor_1 {W : World} {x0 : List Frac} {a0_0 : Option Addr} {c0_0 : Nat} {r : Bool} (h : slices_ContainsFunc_Frac__impl_VarsFor_1 x0 = some r) (hv0_0 : SlView W x0 a0_0 c0_0) :
    Gives0 Tryz.prog 135 #[.slice a0_0 x0.length c0_0, .func (.func 136) #[] #[]] W (.bool r) := by
 unfold slices_ContainsFunc_Frac__impl_VarsFor_1 at h
 refine en Tryz.func135 Tryz.ntmps135 ?_
 refine qs (qr (oN 1 [] [0, 1] ?_))
 refine oe (nt (qs (qr (oN 2 [(6, .v (.func (.func 136) #[] #[])), (5, .v (.slice a0_0 x0.length c0_0))] [] ?_))))
 obtain ⟨t21, h22, h23⟩ := bS h
 refine k0 (fun γ w hs => c_slices_IndexFunc_Frac__impl_VarsFor_1 h22 (hv0_0.kept hs.kept)) ?_
 refine oN 2 [(4, vb (decide (t21 ≥ 0)))] [] ?_
 refine oe (nt (qe ?_))
 obtain rfl := sI h23
 exact re [.bool (decide (t21 ≥ 0))]

theorem c_impl_VarsFor {W : World} {x0 : Case} {b0 : AC × AC × AC × AC × AC} {x1 : Int} {x2 : Int} {r : (List Frac) × Bool} (h : impl_VarsFor x0 x1 x2 = some r) (hv0_0 : SlView W x0.Book.Rules b0.1.1 b0.1.2) (hv0_1 : SlView W x0.Store.Facts b0.2.1.1 b0.2.1.2) (hv0_2 : SlView W x0.Series.Points b0.2.2.1.1 b0.2.2.1.2) (hv0_3 : SlView W x0.Member.Spells b0.2.2.2.1.1 b0.2.2.2.1.2) (hv0_4 : SlView W x0.Member.Events b0.2.2.2.2.1 b0.2.2.2.2.2) :
    Gives Tryz.prog 80 #[vCase x0 b0, .int .i64 x1, .int .i64 x2] W (fun y : AC => .tuple #[.slice y.1 r.1.length y.2, .bool r.2]) (fun y => [SlRes 133 r.1 y.1 y.2]) := by
 unfold impl_VarsFor at h
 refine en Tryz.func80 Tryz.ntmps80 ?_
 refine qs (qr (oB 3 [(3, .p 0 0)] [1, 2] [(38, (eCase x0 b0))] ?_))
 refine oe (nt (qs (qr (oB 4 [(8, .p 1 0)] [3, 1, 2] [(38, (eCase x0 b0)), (36, (eMember x0.Member b0.2.2.2))] ?_))))
 refine oe (nt (qs (qs ?_)))
 obtain ⟨p21, hE22, h23⟩ := bS h
 refine JC_cut (τ := Unit) (fun _ => [(1, vi x1), (2, vi x2), (3, .p 0 0), (8, .p 1 0), (37, vb p21)]) (fun _ => [(38, (eCase x0 b0)), (36, (eMember x0.Member b0.2.2.2))]) (fun _ => []) ?_ (fun _ => ?_)
 · refine qr (oN 1 [(19, .v (vCase x0 b0))] [8, 3, 1, 2] ?_)
   obtain ⟨t24, h25, h26⟩ := bS hE22
   refine k0 (fun γ w hs => c_impl_CaseOk (b0 := b0) h25 (hv0_0.kept hs.kept) (hv0_1.kept hs.kept) (hv0_2.kept hs.kept) (hv0_3.kept hs.kept) (hv0_4.kept hs.kept)) ?_
   refine oN 2 [(22, vb (!t24))] [8, 3, 1, 2] ?_
   refine oS 22 h26 (fun h29 => ?_) (fun h30 => ?_)
   · refine oN 15 [(37, vb true)] [8, 3, 1, 2] ?_
     refine oe ?_
     obtain rfl := sI h29
     exact mt () [1, 2, 3, 8, 37] [] 2
   refine oN 1 [(23, vi x1)] [22, 8, 3, 1, 2] ?_
   obtain ⟨t31, h32, h33⟩ := bS h30
   refine k0 (fun γ w hs => c_impl_MonthOk h32) ?_
   refine oN 3 [(27, vb (!t31))] [8, 3, 1, 2] ?_
   refine oS 27 h33 (fun h36 => ?_) (fun h37 => ?_)
   · refine oN 10 [(37, vb true)] [8, 3, 1, 2] ?_
     refine oe ?_
     obtain rfl := sI h36
     exact mt () [1, 2, 3, 8, 37] [] 2
   refine oN 1 [(28, vi x2)] [27, 8, 3, 1, 2] ?_
   obtain ⟨t38, h39, h40⟩ := bS h37
   refine k0 (fun γ w hs => c_impl_MonthOk h39) ?_
   refine oN 3 [(32, vb (!t38))] [8, 3, 1, 2] ?_
   refine oS 32 h40 (fun h43 => ?_) (fun h44 => ?_)
   · refine oN 5 [(37, vb true)] [8, 3, 1, 2] ?_
     refine oe ?_
     obtain rfl := sI h43
     exact mt () [1, 2, 3, 8, 37] [] 2
   refine oN 5 [(37, vb (decide (x1 < x0.Member.Joined)))] [8, 3, 1, 2] ?_
   refine oe ?_
   obtain rfl := sI h44
   exact mt () [1, 2, 3, 8, 37] [] 2
 refine nt (cC h23 (fun h46 => ?_) (fun h47 => ?_))
 · refine qs (qr (oN 2 [(7, vb false), (6, .v (.slice none 0 0))] [] ?_))
   refine oe (nt (qe (nr (JE_addnil 133 (List.nil (α := Frac)) rfl ?_))))
   refine rt [.slice none 0 0, .bool false] (fun γ w hs => ?_)
   rw [← sI h46]
   exact ⟨(none, 0), rfl, hs.kept.toBelow, (hs.takeR (is := [0]) rfl).fresh⟩
 refine qk (nt (qs (qr (oN 4 [(42, vi x2), (41, vi x1), (40, .v (vStore x0.Store b0.2.1))] [1, 2, 3, 8] ?_))))
 obtain ⟨t48, h49, h50⟩ := bS h47
 refine k0 (fun γ w hs => c_impl_FinalPay h49 (hv0_1.kept hs.kept)) ?_
 refine oN 5 [(9, vi t48.1)] [1, 2, 3, 8] ?_
 refine oe (nt (qs (qr (oN 6 [(52, vi x2), (51, vi x1), (50, vi x0.Member.Joined), (48, .v (vSeries x0.Series b0.2.2.1))] [9, 1, 8] ?_))))
 obtain ⟨t52, h53, h54⟩ := bS h50
 refine k0 (fun γ w hs => c_impl_IndexRatio h53 (hv0_2.kept hs.kept)) ?_
 refine oB 6 [(12, vb t52.2), (11, .p 2 0)] [9, 1, 8] [(38, (eCase x0 b0)), (36, (eMember x0.Member b0.2.2.2)), (133, (eFrac t52.1))] ?_
 refine oe (nt (qs (qs (qr (oN 2 [(57, vb (!t52.2))] [11, 9, 1, 8] ?_)))))
 refine oe (nt ?_)
 obtain ⟨k59, hk60, h133⟩ := jS h54
 refine JC_cutP (τ := (Int × Int) × (Unit)) (fun y => k59 y.1 = some r) (fun y58 => [(11, .p 2 0), (9, vi t48.1), (1, vi x1), (8, .p 1 0)]) (fun y58 => [(38, (eCase x0 b0)), (36, (eMember x0.Member b0.2.2.2)), (133, (eFrac (Frac.mk y58.1.1 y58.1.2)))]) (fun y58 => []) ?_ (fun y58 h61p => ?_)
 · refine cC h133 (fun h135 => ?_) (fun h136 => ?_)
   · refine qr (oB 2 [] [11, 9, 1, 8] [(38, (eCase x0 b0)), (36, (eMember x0.Member b0.2.2.2)), (133, (eFrac (Frac.mk 1 1)))] ?_)
     exact oe (mp ((1, 1), ()) h135 [11, 9, 1, 8] [] 3)
   exact qk (mp ((t52.1.Num, t52.1.Den), ()) h136 [11, 9, 1, 8] [] 3)
 have h61 := (congrFun hk60 _).symm.trans h61p
 refine nt (qs (qr (oN 2 [(60, .v (.slice b0.2.2.2.2.1 x0.Member.Events.length b0.2.2.2.2.2))] [11, 9, 1, 8] ?_)))
 obtain ⟨t62, h63, h64⟩ := bS h61
 refine k0 (fun γ w hs => c_impl_MonthOfKind h63 (hv0_4.kept hs.kept)) ?_
 refine oN 1 [(13, vi t62)] [11, 9, 1, 8] ?_
 refine oe (nt (qs (qs ?_)))
 obtain ⟨p66, hE67, h68⟩ := bS h64
 refine JC_cut (τ := Unit) (fun _ => [(1, vi x1), (8, .p 1 0), (9, vi t48.1), (11, .p 2 0), (13, vi t62), (68, vb p66)]) (fun _ => [(38, (eCase x0 b0)), (36, (eMember x0.Member b0.2.2.2)), (133, (eFrac (Frac.mk y58.1.1 y58.1.2)))]) (fun _ => []) ?_ (fun _ => ?_)
 · refine qr (oN 3 [(64, vb (decide (t62 < 0)))] [13, 11, 9, 1, 8] ?_)
   refine oS 64 hE67 (fun h70 => ?_) (fun h71 => ?_)
   · refine oN 4 [(68, vb true)] [13, 11, 9, 1, 8] ?_
     refine oe ?_
     obtain rfl := sI h70
     exact mt () [1, 8, 9, 11, 13, 68] [] 3
   refine oN 4 [(68, vb (decide (t62 > x1)))] [13, 11, 9, 1, 8] ?_
   refine oe ?_
   obtain rfl := sI h71
   exact mt () [1, 8, 9, 11, 13, 68] [] 3
 refine nt ?_
 obtain ⟨k75, hk76, h129⟩ := jS h68
 refine JC_cutP (τ := (Int) × (Unit)) (fun y => k75 y.1 = some r) (fun y74 => [(1, vi x1), (8, .p 1 0), (9, vi t48.1), (11, .p 2 0), (13, vi y74.1)]) (fun y74 => [(38, (eCase x0 b0)), (36, (eMember x0.Member b0.2.2.2)), (133, (eFrac (Frac.mk y58.1.1 y58.1.2)))]) (fun y74 => []) ?_ (fun y74 h77p => ?_)
 · refine cC h129 (fun h131 => ?_) (fun h132 => ?_)
   · refine qr (oN 2 [(13, vi x1)] [1, 8, 9, 11] ?_)
     exact oe (mp (x1, ()) h131 [1, 8, 9, 11, 13] [] 3)
   exact qk (mp (t62, ()) h132 [1, 8, 9, 11, 13] [] 3)
 have h77 := (congrFun hk76 _).symm.trans h77p
 refine nt (qs (qr (oN 3 [(73, vi x1), (72, .v (.slice b0.2.2.2.1.1 x0.Member.Spells.length b0.2.2.2.1.2))] [1, 8, 9, 11, 13] ?_)))
 obtain ⟨t78, h79, h80⟩ := bS h77
 refine k0 (fun γ w hs => c_impl_ServiceIn h79 (hv0_3.kept hs.kept)) ?_
 obtain ⟨t82, h83, h84⟩ := bS h80
 refine k0 (fun γ w hs => c_impl_reduced h83) ?_
 refine oB 6 [(15, vb t82.2), (14, .p 3 0)] [1, 8, 9, 11, 13] [(38, (eCase x0 b0)), (36, (eMember x0.Member b0.2.2.2)), (133, (eFrac (Frac.mk y58.1.1 y58.1.2))), (133, (eFrac t82.1))] ?_
 refine oe (nt (qs ?_))
 obtain ⟨t86, h87, h88⟩ := bS h84
 obtain ⟨t90, h91, h92⟩ := bS h88
 obtain ⟨t94, h95, h96⟩ := bS h92
 obtain ⟨t98, h99, h100⟩ := bS h96
 obtain ⟨t102, h103, h104⟩ := bS h100
 obtain ⟨t106, h107, h108⟩ := bS h104
 obtain ⟨t110, h111, h112⟩ := bS h108
 refine JC_cut (τ := AC) (fun y115 => [(16, .v (.slice y115.1 ([t82.1, t86, t94, Frac.mk y58.1.1 y58.1.2, t98, t102, t106, t110] : List Frac).length y115.2)), (15, vb t82.2)]) (fun y115 => [(38, (eCase x0 b0)), (36, (eMember x0.Member b0.2.2.2)), (133, (eFrac (Frac.mk y58.1.1 y58.1.2))), (133, (eFrac t82.1))]) (fun y115 => [SlRes 133 ([t82.1, t86, t94, Frac.mk y58.1.1 y58.1.2, t98, t102, t106, t110] : List Frac) y115.1 y115.2]) ?_ (fun y115 => ?_)
 · refine jw [15, 14, 1, 8, 9, 11, 13] [] ?_
   refine JC_heldN (ks := [0, 1, 2, 3]) (Rk := []) 19 (by kernel_rfl) (by kernel_rfl) ?_
   refine htq 0 (.v (vFrac t82.1)) [] ?_
   refine hk [78, 15, 1, 8, 9, 11, 13] ?_
   refine htq 1 (vi t48.1) [] ?_
   refine hk [79, 78, 15, 1, 8, 11, 13] ?_
   refine htq 3 (.p 1 0) [] ?_
   refine hk [81, 79, 78, 15, 1, 11, 13] ?_
   refine htq 4 (vi x0.Member.Birth) [] ?_
   refine hk [82, 79, 78, 15, 1, 11, 13] ?_
   refine htq 5 (vi x1) [] ?_
   refine htq 8 (.v (vFrac (Frac.mk y58.1.1 y58.1.2))) [] ?_
   refine hk [86, 83, 82, 79, 78, 15, 1, 13] ?_
   refine htq 9 (vi x1) [] ?_
   refine htq 10 (vi y74.1) [] ?_
   refine hk [88, 87, 86, 83, 82, 79, 78, 15, 1] ?_
   refine htq 11 (vi (w64 (x1 - y74.1))) [] ?_
   refine hk [89, 86, 83, 82, 79, 78, 15, 1] ?_
   refine htq 13 (vi x1) [] ?_
   refine hk [91, 89, 86, 83, 82, 79, 78, 15] ?_
   refine ha1 2 ?_
   refine hi (fun γ0 δ hm => ?_)
   refine g0 (fun w hs => c_impl_whole h87) ?_
   refine gn hm [80, 91, 89, 86, 83, 82, 78, 15] [] ?_
   refine ha1 6 ?_
   refine hi (fun γ0 δ hm => ?_)
   refine g0 (fun w hs => c_impl_AgeAt h91) ?_
   refine gn hm [84, 80, 91, 89, 86, 78, 15] [] ?_
   refine ha1 7 ?_
   refine hi (fun γ0 δ hm => ?_)
   refine g0 (fun w hs => c_impl_whole h95) ?_
   refine gn hm [85, 80, 91, 89, 86, 78, 15] [] ?_
   refine ha1 12 ?_
   refine hi (fun γ0 δ hm => ?_)
   refine g0 (fun w hs => c_impl_whole h99) ?_
   refine gn hm [90, 85, 80, 91, 86, 78, 15] [] ?_
   refine ha1 14 ?_
   refine hi (fun γ0 δ hm => ?_)
   refine g0 (fun w hs => c_impl_whole h103) ?_
   refine gn hm [92, 90, 85, 80, 86, 78, 15] [] ?_
   refine ha1 15 ?_
   refine hi (fun γ0 δ hm => ?_)
   refine g0 (fun w hs => c_impl_whole h107) ?_
   refine gn hm [93, 92, 90, 85, 80, 86, 78, 15] [] ?_
   refine ha1 16 ?_
   refine hi (fun γ0 δ hm => ?_)
   refine g0 (fun w hs => c_impl_whole h111) ?_
   refine gn hm [94, 93, 92, 90, 85, 80, 86, 78, 15] [] ?_
   refine ha1 17 ?_
   refine hi (fun γ0 δ hm => ?_)
   refine gb [] [] 133 8 [.int .i64 t82.1.Num, .int .i64 t82.1.Den, .int .i64 t86.Num, .int .i64 t86.Den, .int .i64 t94.Num, .int .i64 t94.Den, .int .i64 y58.1.1, .int .i64 y58.1.2, .int .i64 t98.Num, .int .i64 t98.Den, .int .i64 t102.Num, .int .i64 t102.Den, .int .i64 t106.Num, .int .i64 t106.Den, .int .i64 t110.Num, .int .i64 t110.Den] ([t82.1, t86, t94, Frac.mk y58.1.1 y58.1.2, t98, t102, t106, t110] : List Frac) (own_flat (by kernel_rfl)) (fun y114 => ?_)
   refine gn hm [95, 15] [] ?_
   refine htq 18 (.v (.slice y114.1 ([t82.1, t86, t94, Frac.mk y58.1.1 y58.1.2, t98, t102, t106, t110] : List Frac).length y114.2)) [] ?_
   refine hk [16, 15] ?_
   exact hd y114 [16, 15] [0] 4
 refine nt (qs (qs ?_))
 obtain ⟨p116, hE117, h118⟩ := bS h112
 refine JC_cut (τ := Unit) (fun _ => [(16, .v (.slice y115.1 ([t82.1, t86, t94, Frac.mk y58.1.1 y58.1.2, t98, t102, t106, t110] : List Frac).length y115.2)), (101, vb p116)]) (fun _ => [(38, (eCase x0 b0)), (36, (eMember x0.Member b0.2.2.2)), (133, (eFrac (Frac.mk y58.1.1 y58.1.2))), (133, (eFrac t82.1))]) (fun _ => [SlRes 133 ([t82.1, t86, t94, Frac.mk y58.1.1 y58.1.2, t98, t102, t106, t110] : List Frac) y115.1 y115.2]) ?_ (fun _ => ?_)
 · refine qr (oN 3 [(98, vb (!t82.2))] [16] ?_)
   refine oS 98 hE117 (fun h120 => ?_) (fun h121 => ?_)
   · refine oN 3 [(101, vb true)] [16] ?_
     refine oe ?_
     obtain rfl := sI h120
     exact mt () [16, 101] [0] 4
   refine oN 1 [(99, .v (.slice y115.1 ([t82.1, t86, t94, Frac.mk y58.1.1 y58.1.2, t98, t102, t106, t110] : List Frac).length y115.2))] [98, 16] ?_
   obtain ⟨t122, h123, h124⟩ := bS h121
   refine k0 (fun γ w hs => c_slices_ContainsFunc_Frac__impl_VarsFor_1 h123 (hs.view 0 rfl)) ?_
   refine oN 1 [(101, vb t122)] [16] ?_
   refine oe ?_
   obtain rfl := sI h124
   exact mt () [16, 101] [0] 4
 refine nt (cC h118 (fun h127 => ?_) (fun h128 => ?_))
 · refine qs (qr (oN 2 [(7, vb false), (6, .v (.slice none 0 0))] [] ?_))
   refine oe (nt (qe (nr (JE_addnil 133 (List.nil (α := Frac)) rfl ?_))))
   refine rt [.slice none 0 0, .bool false] (fun γ w hs => ?_)
   rw [← sI h127]
   exact ⟨(none, 0), rfl, hs.kept.toBelow, (hs.takeR (is := [0]) rfl).fresh⟩
 refine qk (nt (qs (qr (oN 3 [(7, vb true), (6, .v (.slice y115.1 ([t82.1, t86, t94, Frac.mk y58.1.1 y58.1.2, t98, t102, t106, t110] : List Frac).length y115.2))] [] ?_))))
 refine oe (nt (qe (rt [.slice y115.1 ([t82.1, t86, t94, Frac.mk y58.1.1 y58.1.2, t98, t102, t106, t110] : List Frac).length y115.2, .bool true] (fun γ w hs => ?_))))
 rw [← sI h128]
 exact ⟨y115, rfl, hs.kept.toBelow, (hs.takeR (is := [0]) rfl).fresh⟩

theorem c_impl_RuleFor {W : World} {x0 : Book} {a0_0 : Option Addr} {c0_0 : Nat} {x1 : Int} {x2 : Int} {x3 : Int} {r : Int} (h : impl_RuleFor x0 x1 x2 x3 = some r) (hv0_0 : SlView W x0.Rules a0_0 c0_0) :
    Gives0 Tryz.prog 151 #[vBook x0 (a0_0, c0_0), .int .i64 x1, .int .i64 x2, .int .i64 x3] W (.int .i64 r) := by
 unfold impl_RuleFor at h
 refine en Tryz.func151 Tryz.ntmps151 ?_
 refine qs (qr (oB 2 [(4, .p 0 0)] [1, 2, 3] [(26, (eBook x0 (a0_0, c0_0)))] ?_))
 refine oe (nt (qs (qr (oN 1 [(9, vi (-1))] [4, 1, 2, 3] ?_))))
 refine oe (nt (qs (qs (qr (oN 4 [(15, vi 0), (14, vi (x0.Rules.length : Int)), (13, .v (.slice a0_0 x0.Rules.length c0_0))] [9, 4, 1, 2, 3] ?_)))))
 refine oe (nt ?_)
 obtain ⟨r24, hL25, h26⟩ := bS h
 obtain ⟨k27, hk28, h26⟩ := brkS h26
 refine JC_cutP (τ := (Int) × (Unit)) (fun y => k27 y.1 = some r) (fun y32 => [(9, vi y32.1), (4, .p 0 0)]) (fun y32 => [(26, (eBook x0 (a0_0, c0_0)))]) (fun y32 => []) ?_ (fun y32 h33p => ?_)
 · refine qb (lp Unit hL25 (fun s21 y22 => [(15, vi s21.1), (14, vi (x0.Rules.length : Int)), (13, .v (.slice a0_0 x0.Rules.length c0_0)), (9, vi s21.2), (4, .p 0 0), (1, vi x1), (2, vi x2), (3, vi x3)]) (fun s21 y22 => [(26, (eBook x0 (a0_0, c0_0)))]) (fun s21 y22 => []) () [15, 14, 13, 9, 4, 1, 2, 3] [] 1 (fun s21 y22 t23 h29 hd30 => ?_))
   refine qs (qr (oN 1 [(16, vb (decide (s21.1 < (x0.Rules.length : Int))))] [15, 14, 13, 9, 4, 1, 2, 3] ?_))
   refine oe (nt (qs (cC h29 (fun h42 => ?_) (fun h43 => ?_))))
   · refine qk (nt (qs (qb (qs (qr (oN 1 [(17, vi s21.1)] [15, 14, 13, 9, 4, 1, 2, 3] ?_))))))
     obtain ⟨x44, hx45, h46⟩ := bS h42
     refine oi 7 (fun γ w hs => (hv0_0.kept hs.kept)) hx45 ?_
     obtain ⟨_, ⟨a47, c48, rfl, hv49⟩, hc50⟩ := SlView.at hv0_0 (idx_some hx45).2.2
     refine ol 76 0 (vRule x44 (a47, c48)) (fun γ w hs => ⟨(hv0_0.kept hs.kept).ne (idx_some hx45).2.2, hc50.kept hs.kept⟩) ?_
     refine oB 3 [(10, vi s21.1), (11, .p 1 0)] [15, 14, 13, 9, 4, 1, 2, 3] [(26, (eBook x0 (a0_0, c0_0))), (76, (eRule x44 (a47, c48)))] ?_
     refine oe (nt (qs ?_))
     obtain ⟨p51, hE52, h53⟩ := bS h46
     refine JC_cut (τ := Unit) (fun _ => [(1, vi x1), (2, vi x2), (3, vi x3), (4, .p 0 0), (9, vi s21.2), (10, vi s21.1), (13, .v (.slice a0_0 x0.Rules.length c0_0)), (14, vi (x0.Rules.length : Int)), (15, vi s21.1), (56, vb p51)]) (fun _ => [(26, (eBook x0 (a0_0, c0_0))), (76, (eRule x44 (a47, c48)))]) (fun _ => []) ?_ (fun _ => ?_)
     · refine JC_quiet (by kernel_rfl) (by kernel_rfl) ?_
       refine qN 5 [(24, vb (x44.Name == x1))] [10, 11, 15, 14, 13, 9, 4, 1, 2, 3] ?_
       refine qS 24 hE52 (fun h55 => ?_) (fun h56 => ?_)
       · refine qN 6 [(30, vb (decide (x44.From ≤ x2)))] [10, 11, 15, 14, 13, 9, 4, 1, 2, 3] ?_
         refine qS 30 h55 (fun h58 => ?_) (fun h59 => ?_)
         · refine qN 6 [(36, vb (decide (x2 < x44.To)))] [10, 11, 15, 14, 13, 9, 4, 1, 2, 3] ?_
           refine qS 36 h58 (fun h61 => ?_) (fun h62 => ?_)
           · refine qN 6 [(42, vb (decide (x44.Joined > x3)))] [10, 11, 15, 14, 13, 9, 4, 1, 2, 3] ?_
             refine qS 42 h61 (fun h64 => ?_) (fun h65 => ?_)
             · refine qN 3 [(45, vb (decide (s21.2 < 0)))] [42, 10, 11, 15, 14, 13, 9, 4, 1, 2, 3] ?_
               refine qS 45 h64 (fun h67 => ?_) (fun h68 => ?_)
               · refine qN 11 [(56, vb true)] [10, 15, 14, 13, 9, 4, 1, 2, 3] ?_
                 refine qz ?_
                 obtain rfl := sI h67
                 exact mt () [1, 2, 3, 4, 9, 10, 13, 14, 15, 56] [] 2
               refine qN 5 [(50, vi s21.2), (49, .v (.slice a0_0 x0.Rules.length c0_0)), (47, vi x44.Rank)] [45, 42, 10, 15, 14, 13, 9, 4, 1, 2, 3] ?_
               obtain ⟨x69, hx70, h71⟩ := bS h68
               refine qi 7 (fun γ w hs => (hv0_0.kept hs.kept)) hx70 ?_
               refine qN 1 [(52, .q a0_0 (Int.toNat s21.2 * 7 + 4))] [47, 45, 42, 10, 15, 14, 13, 9, 4, 1, 2, 3] ?_
               obtain ⟨_, ⟨a72, c73, rfl, hv74⟩, hc75⟩ := SlView.at hv0_0 (idx_some hx70).2.2
               refine ql 3 4 (.int .i64 x69.Rank) (fun γ w hs => ⟨(hv0_0.kept hs.kept).ne (idx_some hx70).2.2, hc75.kept hs.kept⟩) ?_
               refine qN 3 [(56, vb (decide (x44.Rank > x69.Rank)))] [10, 15, 14, 13, 9, 4, 1, 2, 3] ?_
               refine qz ?_
               obtain rfl := sI h71
               exact mt () [1, 2, 3, 4, 9, 10, 13, 14, 15, 56] [] 2
             refine qN 14 [(56, vb false)] [10, 15, 14, 13, 9, 4, 1, 2, 3] ?_
             refine qz ?_
             obtain rfl := sI h65
             exact mt () [1, 2, 3, 4, 9, 10, 13, 14, 15, 56] [] 2
           refine qN 20 [(56, vb false)] [10, 15, 14, 13, 9, 4, 1, 2, 3] ?_
           refine qz ?_
           obtain rfl := sI h62
           exact mt () [1, 2, 3, 4, 9, 10, 13, 14, 15, 56] [] 2
         refine qN 26 [(56, vb false)] [10, 15, 14, 13, 9, 4, 1, 2, 3] ?_
         refine qz ?_
         obtain rfl := sI h59
         exact mt () [1, 2, 3, 4, 9, 10, 13, 14, 15, 56] [] 2
       refine qN 32 [(56, vb false)] [10, 15, 14, 13, 9, 4, 1, 2, 3] ?_
       refine qz ?_
       obtain rfl := sI h56
       exact mt () [1, 2, 3, 4, 9, 10, 13, 14, 15, 56] [] 2
     refine nt ?_
     obtain ⟨k79, hk80, h82⟩ := jS h53
     refine JC_cutP (τ := (Int) × (Unit)) (fun y => k79 y.1 = some t23) (fun y78 => [(1, vi x1), (2, vi x2), (3, vi x3), (4, .p 0 0), (9, vi y78.1), (13, .v (.slice a0_0 x0.Rules.length c0_0)), (14, vi (x0.Rules.length : Int)), (15, vi s21.1)]) (fun y78 => [(26, (eBook x0 (a0_0, c0_0))), (76, (eRule x44 (a47, c48)))]) (fun y78 => []) ?_ (fun y78 h81p => ?_)
     · refine cC h82 (fun h84 => ?_) (fun h85 => ?_)
       · refine qr (oN 2 [(9, vi s21.1)] [1, 2, 3, 4, 13, 14, 15] ?_)
         exact oe (mp (s21.1, ()) h84 [1, 2, 3, 4, 9, 13, 14, 15] [] 2)
       exact qk (mp (s21.2, ()) h85 [1, 2, 3, 4, 9, 13, 14, 15] [] 2)
     have h81 := (congrFun hk80 _).symm.trans h81p
     refine bn (nt (qr (oN 2 [(15, vi (w64 (s21.1 + 1)))] [1, 2, 3, 4, 9, 13, 14] ?_)))
     exact oe (ct h81 () [15, 14, 13, 9, 4, 1, 2, 3] [] 1)
   refine qx (nx (nx (bh ?_)))
   have h86 := leafB hd30 h43 h26
   exact mp (s21.2, ()) h86 [9, 4] [] 1
 have h33 := (congrFun hk28 _).symm.trans h33p
 refine nt (qs (qs (qr (oN 1 [(59, .v (vBook x0 (a0_0, c0_0)))] [9] ?_))))
 obtain ⟨t34, h35, h36⟩ := bS h33
 refine k0 (fun γ w hs => c_impl_BookOk h35 (hv0_0.kept hs.kept)) ?_
 refine oN 1 [(61, vb (!t34))] [9] ?_
 refine oe (nt (cC h36 (fun h39 => ?_) (fun h40 => ?_)))
 · refine qs (qr (oN 1 [(8, vi (-1))] [] ?_))
   refine oe (nt (qe (nr ?_)))
   obtain rfl := sI h39
   exact re [.int .i64 (-1)]
 refine qk (nt (qs (qr (oN 2 [(8, vi y32.1)] [] ?_))))
 refine oe (nt (qe ?_))
 obtain rfl := sI h40
 exact re [.int .i64 y32.1]

theorem c_impl_EvalAll_1 {W : World} {x0 : Frac} {r : Bool} (h : impl_EvalAll_1 x0 = some r)  :
    Gives0 Tryz.prog 203 #[vFrac x0] W (.bool r) := by
 unfold impl_EvalAll_1 at h
 refine en Tryz.func203 Tryz.ntmps203 ?_
 refine qs (qr (oB 2 [(1, .p 0 0)] [] [(133, (eFrac x0))] ?_))
 refine oe (nt (qs (qr (oN 1 [(3, .v (vFrac x0))] [] ?_))))
 obtain ⟨t21, h22, h23⟩ := bS h
 refine k0 (fun γ w hs => c_impl_FracOk h22) ?_
 refine oN 2 [(2, vb (!t21))] [] ?_
 refine oe (nt (qe ?_))
 obtain rfl := sI h23
 exact re [.bool (!t21)]

theorem c_slices_IndexFunc_Frac__impl_EvalAll_1 {W : World} {x0 : List Frac} {a0_0 : Option Addr} {c0_0 : Nat} {r : Int} (h : slices_IndexFunc_Frac__impl_EvalAll_1 x0 = some r) (hv0_0 : SlView W x0 a0_0 c0_0) :
    Gives0 Tryz.prog 186 #[.slice a0_0 x0.length c0_0, .func (.func 203) #[] #[]] W (.int .i64 r) := by
 unfold slices_IndexFunc_Frac__impl_EvalAll_1 at h
 refine en Tryz.func186 Tryz.ntmps186 ?_
 refine qs (qr (oN 1 [] [0, 1] ?_))
 refine oe (nt (qs (qs (qr (oN 3 [(8, vi 0), (7, vi (x0.length : Int))] [0, 1] ?_)))))
 refine oe (nt ?_)
 obtain ⟨r24, hL25, h26⟩ := bS h
 obtain ⟨k27, hk28, h26⟩ := brkS h26
 refine JC_cutP (τ := (Unit) × (Unit)) (fun y => k27 y.1 = some r) (fun y32 => []) (fun y32 => []) (fun y32 => []) ?_ (fun y32 h33p => ?_)
 · refine qb (lp Unit hL25 (fun s21 y22 => [(8, vi s21), (7, vi (x0.length : Int)), (0, .v (.slice a0_0 x0.length c0_0)), (1, .v (.func (.func 203) #[] #[]))]) (fun s21 y22 => []) (fun s21 y22 => []) () [8, 7, 0, 1] [] 0 (fun s21 y22 t23 h29 hd30 => ?_))
   refine qs (qr (oN 1 [(9, vb (decide (s21 < (x0.length : Int))))] [8, 7, 0, 1] ?_))
   refine oe (nt (qs (cC h29 (fun h35 => ?_) (fun h36 => ?_))))
   · refine qk (nt (qs (qb (qs (qr (oN 2 [(5, vi s21)] [8, 7, 0, 1] ?_))))))
     refine oe (nt (qs (qr (oN 3 [(13, vi s21), (12, .v (.slice a0_0 x0.length c0_0)), (11, .v (.func (.func 203) #[] #[]))] [5, 8, 7, 0, 1] ?_))))
     obtain ⟨x37, hx38, h39⟩ := bS h35
     refine oi 2 (fun γ w hs => (hv0_0.kept hs.kept)) hx38 ?_
     refine ol 133 0 (vFrac x37) (fun γ w hs => (hv0_0.kept hs.kept).flatq hx38) ?_
     obtain ⟨t40, h41, h42⟩ := bS h39
     refine k0 (fun γ w hs => c_impl_EvalAll_1 h41) ?_
     refine oe (nt (cC h42 (fun h45 => ?_) (fun h46 => ?_)))
     · refine qs (qr (oN 2 [(4, vi s21)] [] ?_))
       refine oe (nt (qe (br (nr (nr ?_)))))
       have h47 := leafR hd30 h45 h26
       refine br (nr (nr ?_))
       obtain rfl := sI h47
       exact re [.int .i64 s21]
     refine qk (bn (nt (qr (oN 2 [(8, vi (w64 (s21 + 1)))] [7, 0, 1] ?_))))
     exact oe (ct h46 () [8, 7, 0, 1] [] 0)
   refine qx (nx (nx (bh ?_)))
   have h48 := leafB hd30 h36 h26
   exact mp ((), ()) h48 [] [] 0
 have h33 := (congrFun hk28 _).symm.trans h33p
 refine nt (qs (qr (oN 1 [(4, vi (-1))] [] ?_)))
 refine oe (nt (qe ?_))
 obtain rfl := sI h33
 exact re [.int .i64 (-1)]
end Go.Pen
