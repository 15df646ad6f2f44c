/-
  Each Go function does what its plain function says: written by a program of ours.
-/
import Derived.Test.YtagenkhjchiigaaW2
import Derived.Test.YtagenkhjchiigaaProg
import Derived.Test.YtagenkhjchiigaaPenK
import Derived.Test.YtagenkhjchiigaaPenJ
import Derived.Test.YtagenkhjchiigaaPenP
namespace Go.Pen
open Go.Proofs Go.RowKit
set_option linter.unusedVariables false
set_option linter.unusedSimpArgs false
set_option maxRecDepth 100000
set_option maxHeartbeats 4000000

theorem c_spec_l37Case {W : World} {xb0 : List U8} {xi0 xh0 : Int} {p0 ca0 : Option Addr} {cc0 : Nat} {r : Office × Int × Int} (h : spec_l37Case xb0 xi0 xh0 = some r) (hv0_0 : SlView W xb0 ca0 cc0) :
    GivesC Try.prog 106 38 #[(SV.q p0 0).den []] W (CurD.mk xb0 xi0 xh0) p0 ca0 cc0 (CurD.mk xb0 r.2.1 r.2.2) (fun y : AC × AC × AC × AC × AC × AC => vOffice r.1 y) (fun y => [SlRes 48 r.1.Case.Book.Rules y.1.1 y.1.2, SlRes 79 r.1.Case.Store.Facts y.2.1.1 y.2.1.2, SlRes 75 r.1.Case.Series.Points y.2.2.1.1 y.2.2.1.2, SlRes 94 r.1.Case.Member.Spells y.2.2.2.1.1 y.2.2.2.1.2, SlRes 97 r.1.Case.Member.Events y.2.2.2.2.1.1 y.2.2.2.2.1.2, SlRes 3 r.1.Paid y.2.2.2.2.2.1 y.2.2.2.2.2.2]) := by
 unfold spec_l37Case at h
 refine enterC [.q p0 0] (args := [(SV.q p0 0).den []]) hv0_0 (by kernel_rfl) (by kernel_rfl) Try.func38 rfl Try.ntmps38 (by kernel_rfl) (fun g hg hs0 => ?_)
 refine qs (qr (oB 1 [(2, .p 0 0)] [0] [(56, [.slice none 0 0, .slice none 0 0, .slice none 0 0, .int .i64 0, .int .i64 0, .slice none 0 0, .slice none 0 0, .int .i64 0, .slice none 0 0])] ?_))
 refine oe (nt (qs (qr (oN 1 [(8, .q p0 0)] [2, 0] ?_))))
 obtain ⟨t21, h22, h23⟩ := bS h
 refine JO_callC rfl (by kernel_rfl) (f := 21) (args := fun γ => #[(SV.q p0 0).den []]) (fun γ => by kernel_rfl) (x0 := CurD.mk xb0 xi0 xh0) (x1 := CurD.mk xb0 t21.2.1 t21.2.2) (Rr := []) rfl hs0 (fun γ w hs => (by have vv := c_spec_l22Case (p0 := p0) (W := w) h22 (hs0.kept hs.kept); exact vv)) (fun (y24 : AC × AC × AC × AC × AC) => [(9, .v (vCase t21.1 y24)), (8, .q p0 0), (2, .p 0 0), (0, .q p0 0)]) (fun y24 => by kernel_rfl) (fun y24 => ?_)
 refine oB 2 [(3, .p 1 0)] [2, 0] [(56, [.slice none 0 0, .slice none 0 0, .slice none 0 0, .int .i64 0, .int .i64 0, .slice none 0 0, .slice none 0 0, .int .i64 0, .slice none 0 0]), (38, (eCase t21.1 y24))] ?_
 refine oe (nt (qs (qr (oN 3 [(12, .v (.slice y24.2.1.1 t21.1.Store.Facts.length y24.2.1.2))] [3, 2, 0] ?_))))
 refine JO_res (R' := [SlRes 79 t21.1.Store.Facts y24.2.1.1 y24.2.1.2, SlRes 48 t21.1.Book.Rules y24.1.1 y24.1.2, SlRes 75 t21.1.Series.Points y24.2.2.1.1 y24.2.2.1.2, SlRes 94 t21.1.Member.Spells y24.2.2.2.1.1 y24.2.2.2.1.2, SlRes 97 t21.1.Member.Events y24.2.2.2.2.1 y24.2.2.2.2.2, CurRes 106 (CurD.mk xb0 t21.2.1 t21.2.2) p0 ca0 cc0]) [1, 0, 0, 0, 0, 0] (by kernel_rfl) ?_
 obtain ⟨l25, hm26, h27⟩ := bS h23
 refine JO_headR (α := Fact) rfl (by kernel_rfl) (a0 := y24.2.1.1) (n0 := t21.1.Store.Facts.length) (c0 := y24.2.1.2) (hi := 1) (by kernel_rfl) hm26 (Rr := [SlRes 48 t21.1.Book.Rules y24.1.1 y24.1.2, SlRes 75 t21.1.Series.Points y24.2.2.1.1 y24.2.2.1.2, SlRes 94 t21.1.Member.Spells y24.2.2.2.1.1 y24.2.2.2.1.2, SlRes 97 t21.1.Member.Events y24.2.2.2.2.1 y24.2.2.2.2.2, CurRes 106 (CurD.mk xb0 t21.2.1 t21.2.2) p0 ca0 cc0]) rfl (sl' := [(13, .v (.slice y24.2.1.1 l25.length y24.2.1.2)), (12, .v (.slice y24.2.1.1 t21.1.Store.Facts.length y24.2.1.2)), (3, .p 1 0), (2, .p 0 0), (0, .q p0 0)]) (by kernel_rfl) ?_
 refine JO_keep [13, 3, 2, 0] (sl' := [(13, .v (.slice y24.2.1.1 l25.length y24.2.1.2)), (3, .p 1 0), (2, .p 0 0), (0, .q p0 0)]) (by kernel_rfl) ?_
 refine oB 3 [] [3, 2, 0] [(56, [.slice none 0 0, .slice none 0 0, .slice none 0 0, .int .i64 0, .int .i64 0, .slice none 0 0, .slice none 0 0, .int .i64 0, .slice none 0 0]), (38, (eCase (Case.mk t21.1.Book (Store.mk l25) t21.1.Series t21.1.Member) y24))] ?_
 refine oe (nt (qs (qr (oB 3 [] [3, 2, 0] [(56, [.slice none 0 0, .slice none 0 0, .slice none 0 0, .int .i64 0, .int .i64 0, .slice none 0 0, .slice none 0 0, .int .i64 0, .slice none 0 0]), (38, (eCase (Case.mk t21.1.Book (Store.mk l25) (Series.mk ([] : List Point)) t21.1.Member) (y24.1, y24.2.1, (none, 0), y24.2.2.2.1, y24.2.2.2.2)))] ?_))))
 refine oe (nt (qs ?_))
 obtain ⟨t28, h29, h30⟩ := bS h27
 obtain ⟨t32, h33, h34⟩ := bS h30
 refine JC_cut (τ := (AC × AC × AC × AC × AC × AC)) (fun y36 => [(4, .p 2 0), (2, .p 0 0), (0, .q p0 0)]) (fun y36 => [(56, [.slice none 0 0, .slice none 0 0, .slice none 0 0, .int .i64 0, .int .i64 0, .slice none 0 0, .slice none 0 0, .int .i64 0, .slice none 0 0]), (38, (eCase (Case.mk t21.1.Book (Store.mk l25) (Series.mk ([] : List Point)) t21.1.Member) (y24.1, y24.2.1, (none, 0), y24.2.2.2.1, y24.2.2.2.2))), (56, (eOffice t32.1 y36))]) (fun y36 => [SlRes 48 t32.1.Case.Book.Rules y36.1.1 y36.1.2, SlRes 79 t32.1.Case.Store.Facts y36.2.1.1 y36.2.1.2, SlRes 75 t32.1.Case.Series.Points y36.2.2.1.1 y36.2.2.1.2, SlRes 94 t32.1.Case.Member.Spells y36.2.2.2.1.1 y36.2.2.2.1.2, SlRes 97 t32.1.Case.Member.Events y36.2.2.2.2.1.1 y36.2.2.2.2.1.2, SlRes 3 t32.1.Paid y36.2.2.2.2.2.1 y36.2.2.2.2.2.2, SlRes 79 l25 y24.2.1.1 y24.2.1.2, SlRes 48 t21.1.Book.Rules y24.1.1 y24.1.2, SlRes 75 t21.1.Series.Points y24.2.2.1.1 y24.2.2.1.2, SlRes 94 t21.1.Member.Spells y24.2.2.2.1.1 y24.2.2.2.1.2, SlRes 97 t21.1.Member.Events y24.2.2.2.2.1 y24.2.2.2.2.2, CurRes 106 (CurD.mk xb0 t28.2.1 t28.2.2) p0 ca0 cc0]) ?_ (fun y36 => ?_)
 · refine JC_weak [3, 2, 0] [0, 0, 0, 0, 0, 0] 2 (sl' := [(3, .p 1 0), (2, .p 0 0), (0, .q p0 0)]) (bx' := [(56, [.slice none 0 0, .slice none 0 0, .slice none 0 0, .int .i64 0, .int .i64 0, .slice none 0 0, .slice none 0 0, .int .i64 0, .slice none 0 0]), (38, (eCase (Case.mk t21.1.Book (Store.mk l25) (Series.mk ([] : List Point)) t21.1.Member) (y24.1, y24.2.1, (none, 0), y24.2.2.2.1, y24.2.2.2.2)))]) (R' := [SlRes 79 l25 y24.2.1.1 y24.2.1.2, SlRes 48 t21.1.Book.Rules y24.1.1 y24.1.2, SlRes 75 t21.1.Series.Points y24.2.2.1.1 y24.2.2.1.2, SlRes 94 t21.1.Member.Spells y24.2.2.2.1.1 y24.2.2.2.1.2, SlRes 97 t21.1.Member.Events y24.2.2.2.2.1 y24.2.2.2.2.2, CurRes 106 (CurD.mk xb0 t21.2.1 t21.2.2) p0 ca0 cc0]) (by kernel_rfl) (by kernel_rfl) (by kernel_rfl) (by kernel_rfl) ?_
   refine JC_heldN (ks := [0, 1]) (Rk := [SlRes 79 l25 y24.2.1.1 y24.2.1.2, SlRes 48 t21.1.Book.Rules y24.1.1 y24.1.2, SlRes 75 t21.1.Series.Points y24.2.2.1.1 y24.2.2.1.2, SlRes 94 t21.1.Member.Spells y24.2.2.2.1.1 y24.2.2.2.1.2, SlRes 97 t21.1.Member.Events y24.2.2.2.2.1 y24.2.2.2.2.2]) 11 (by kernel_rfl) (by kernel_rfl) ?_
   refine htq 0 (.v (vCase (Case.mk t21.1.Book (Store.mk l25) (Series.mk ([] : List Point)) t21.1.Member) (y24.1, y24.2.1, (none, 0), y24.2.2.2.1, y24.2.2.2.2))) [0, 0, 0, 0, 0] ?_
   refine hk [19, 2, 0] ?_
   refine htq 1 (.q p0 0) [0, 0, 0, 0, 0] ?_
   refine ha2 2 8 ?_ ?_
   · refine JHi_res (R' := [CurRes 106 (CurD.mk xb0 t21.2.1 t21.2.2) p0 ca0 cc0, SlRes 79 l25 y24.2.1.1 y24.2.1.2, SlRes 48 t21.1.Book.Rules y24.1.1 y24.1.2, SlRes 75 t21.1.Series.Points y24.2.2.1.1 y24.2.2.1.2, SlRes 94 t21.1.Member.Spells y24.2.2.2.1.1 y24.2.2.2.1.2, SlRes 97 t21.1.Member.Events y24.2.2.2.2.1 y24.2.2.2.2.2]) [5, 0, 0, 0, 0, 0] (by kernel_rfl) ?_
     refine hi (fun γ0 δ hm => ?_)
     refine JG_callC (by kernel_rfl) (f := 23) (args := #[(SV.q p0 0).den [], .int .i64 30]) (by kernel_rfl) (x0 := CurD.mk xb0 t21.2.1 t21.2.2) (x1 := CurD.mk xb0 t28.2.1 t28.2.2) (Rr := [SlRes 79 l25 y24.2.1.1 y24.2.1.2, SlRes 48 t21.1.Book.Rules y24.1.1 y24.1.2, SlRes 75 t21.1.Series.Points y24.2.2.1.1 y24.2.2.1.2, SlRes 94 t21.1.Member.Spells y24.2.2.2.1.1 y24.2.2.2.1.2, SlRes 97 t21.1.Member.Events y24.2.2.2.2.1 y24.2.2.2.2.2]) rfl hs0 (fun w hs => (by have vv := c_spec_l01Below (p0 := p0) (W := w) h29 (hs0.kept hs.kept); exact vv)) (fun (y31 : Unit) => [(21, vi t28.1), (20, .q p0 0), (19, .v (vCase (Case.mk t21.1.Book (Store.mk l25) (Series.mk ([] : List Point)) t21.1.Member) (y24.1, y24.2.1, (none, 0), y24.2.2.2.1, y24.2.2.2.2))), (2, .p 0 0), (0, .q p0 0)]) (fun y31 => by kernel_rfl) (fun y31 => ?_)
     refine gn hm [21, 19, 2, 0] [1, 1, 1, 1, 1] ?_
     refine htq 3 (vi (w64 (20 + t28.1))) [1, 1, 1, 1, 1] ?_
     refine hk [22, 19, 2, 0] ?_
     refine ha2 4 8 ?_ ?_
     · refine hi (fun γ0 δ hm => ?_)
       refine g1 (fun w hs => c_spec_OfficeNew (b0 := (y24.1, y24.2.1, (none, 0), y24.2.2.2.1, y24.2.2.2.2)) h33 (hs.view 2 rfl) (hs.view 1 rfl) (SlView.ofNil _) (hs.view 4 rfl) (hs.view 5 rfl)) (fun y35 => ?_)
       refine gn hm [23, 2, 0] [7, 7, 7, 7, 7] ?_
       refine htq 5 (.v (.tuple #[vOffice t32.1 y35, .bool t32.2])) [7, 7, 7, 7, 7] ?_
       refine hk [18, 2, 0] ?_
       refine htq 6 (.v (vOffice t32.1 y35)) [7, 7, 7, 7, 7] ?_
       refine htq 7 (vb t32.2) [7, 7, 7, 7, 7] ?_
       refine hk [25, 24, 2, 0] ?_
       refine ha1 8 ?_
       refine hi (fun γ0 δ hm => ?_)
       refine gs [(4, .p 2 0), (25, vb t32.2), (24, .v (vOffice t32.1 y35)), (2, .p 0 0), (0, .q p0 0)] [(56, [.slice none 0 0, .slice none 0 0, .slice none 0 0, .int .i64 0, .int .i64 0, .slice none 0 0, .slice none 0 0, .int .i64 0, .slice none 0 0]), (38, (eCase (Case.mk t21.1.Book (Store.mk l25) (Series.mk ([] : List Point)) t21.1.Member) (y24.1, y24.2.1, (none, 0), y24.2.2.2.1, y24.2.2.2.2))), (56, [.slice none 0 0, .slice none 0 0, .slice none 0 0, .int .i64 0, .int .i64 0, .slice none 0 0, .slice none 0 0, .int .i64 0, .slice none 0 0])] (fun δ2 => ?_)
       refine gd hm [4, 25, 24, 2, 0] [7, 7, 7, 7, 7] ?_
       refine ha1 9 ?_
       refine hi (fun γ0 δ hm => ?_)
       refine gs [(4, .p 2 0), (25, vb t32.2), (24, .v (vOffice t32.1 y35)), (2, .p 0 0), (0, .q p0 0)] [(56, [.slice none 0 0, .slice none 0 0, .slice none 0 0, .int .i64 0, .int .i64 0, .slice none 0 0, .slice none 0 0, .int .i64 0, .slice none 0 0]), (38, (eCase (Case.mk t21.1.Book (Store.mk l25) (Series.mk ([] : List Point)) t21.1.Member) (y24.1, y24.2.1, (none, 0), y24.2.2.2.1, y24.2.2.2.2))), (56, (eOffice t32.1 y35))] (fun δ2 => ?_)
       refine gd hm [4, 25, 2, 0] [7, 7, 7, 7, 7] ?_
       refine htq 10 (vb t32.2) [7, 7, 7, 7, 7] ?_
       refine hk [4, 2, 0] ?_
       exact hd y35 [4, 2, 0] [0, 0, 0, 0, 0, 0, 1, 1, 1, 1, 1, 0] 3
     · refine hi (fun γ0 δ hm => ?_)
       refine gs [(4, .p 2 0), (22, vi (w64 (20 + t28.1))), (19, .v (vCase (Case.mk t21.1.Book (Store.mk l25) (Series.mk ([] : List Point)) t21.1.Member) (y24.1, y24.2.1, (none, 0), y24.2.2.2.1, y24.2.2.2.2))), (2, .p 0 0), (0, .q p0 0)] [(56, [.slice none 0 0, .slice none 0 0, .slice none 0 0, .int .i64 0, .int .i64 0, .slice none 0 0, .slice none 0 0, .int .i64 0, .slice none 0 0]), (38, (eCase (Case.mk t21.1.Book (Store.mk l25) (Series.mk ([] : List Point)) t21.1.Member) (y24.1, y24.2.1, (none, 0), y24.2.2.2.1, y24.2.2.2.2))), (56, [.slice none 0 0, .slice none 0 0, .slice none 0 0, .int .i64 0, .int .i64 0, .slice none 0 0, .slice none 0 0, .int .i64 0, .slice none 0 0])] (fun δ2 => ?_)
       refine gd hm [4, 22, 19, 2, 0] [1, 1, 1, 1, 1] ?_
       refine ha1 4 ?_
       refine hi (fun γ0 δ hm => ?_)
       refine g1 (fun w hs => c_spec_OfficeNew (b0 := (y24.1, y24.2.1, (none, 0), y24.2.2.2.1, y24.2.2.2.2)) h33 (hs.view 2 rfl) (hs.view 1 rfl) (SlView.ofNil _) (hs.view 4 rfl) (hs.view 5 rfl)) (fun y35 => ?_)
       refine gn hm [23, 4, 2, 0] [7, 7, 7, 7, 7] ?_
       refine htq 5 (.v (.tuple #[vOffice t32.1 y35, .bool t32.2])) [7, 7, 7, 7, 7] ?_
       refine hk [18, 4, 2, 0] ?_
       refine htq 6 (.v (vOffice t32.1 y35)) [7, 7, 7, 7, 7] ?_
       refine htq 7 (vb t32.2) [7, 7, 7, 7, 7] ?_
       refine hk [25, 24, 4, 2, 0] ?_
       refine ha1 9 ?_
       refine hi (fun γ0 δ hm => ?_)
       refine gs [(25, vb t32.2), (24, .v (vOffice t32.1 y35)), (4, .p 2 0), (2, .p 0 0), (0, .q p0 0)] [(56, [.slice none 0 0, .slice none 0 0, .slice none 0 0, .int .i64 0, .int .i64 0, .slice none 0 0, .slice none 0 0, .int .i64 0, .slice none 0 0]), (38, (eCase (Case.mk t21.1.Book (Store.mk l25) (Series.mk ([] : List Point)) t21.1.Member) (y24.1, y24.2.1, (none, 0), y24.2.2.2.1, y24.2.2.2.2))), (56, (eOffice t32.1 y35))] (fun δ2 => ?_)
       refine gd hm [25, 4, 2, 0] [7, 7, 7, 7, 7] ?_
       refine htq 10 (vb t32.2) [7, 7, 7, 7, 7] ?_
       refine hk [4, 2, 0] ?_
       exact hd y35 [4, 2, 0] [0, 0, 0, 0, 0, 0, 1, 1, 1, 1, 1, 0] 3
   · refine hi (fun γ0 δ hm => ?_)
     refine gs [(4, .p 2 0), (20, .q p0 0), (19, .v (vCase (Case.mk t21.1.Book (Store.mk l25) (Series.mk ([] : List Point)) t21.1.Member) (y24.1, y24.2.1, (none, 0), y24.2.2.2.1, y24.2.2.2.2))), (2, .p 0 0), (0, .q p0 0)] [(56, [.slice none 0 0, .slice none 0 0, .slice none 0 0, .int .i64 0, .int .i64 0, .slice none 0 0, .slice none 0 0, .int .i64 0, .slice none 0 0]), (38, (eCase (Case.mk t21.1.Book (Store.mk l25) (Series.mk ([] : List Point)) t21.1.Member) (y24.1, y24.2.1, (none, 0), y24.2.2.2.1, y24.2.2.2.2))), (56, [.slice none 0 0, .slice none 0 0, .slice none 0 0, .int .i64 0, .int .i64 0, .slice none 0 0, .slice none 0 0, .int .i64 0, .slice none 0 0])] (fun δ2 => ?_)
     refine gd hm [4, 20, 19, 2, 0] [0, 0, 0, 0, 0] ?_
     refine ha1 2 ?_
     refine JHi_res (R' := [CurRes 106 (CurD.mk xb0 t21.2.1 t21.2.2) p0 ca0 cc0, SlRes 79 l25 y24.2.1.1 y24.2.1.2, SlRes 48 t21.1.Book.Rules y24.1.1 y24.1.2, SlRes 75 t21.1.Series.Points y24.2.2.1.1 y24.2.2.1.2, SlRes 94 t21.1.Member.Spells y24.2.2.2.1.1 y24.2.2.2.1.2, SlRes 97 t21.1.Member.Events y24.2.2.2.2.1 y24.2.2.2.2.2]) [5, 0, 0, 0, 0, 0] (by kernel_rfl) ?_
     refine hi (fun γ0 δ hm => ?_)
     refine JG_callC (by kernel_rfl) (f := 23) (args := #[(SV.q p0 0).den [], .int .i64 30]) (by kernel_rfl) (x0 := CurD.mk xb0 t21.2.1 t21.2.2) (x1 := CurD.mk xb0 t28.2.1 t28.2.2) (Rr := [SlRes 79 l25 y24.2.1.1 y24.2.1.2, SlRes 48 t21.1.Book.Rules y24.1.1 y24.1.2, SlRes 75 t21.1.Series.Points y24.2.2.1.1 y24.2.2.1.2, SlRes 94 t21.1.Member.Spells y24.2.2.2.1.1 y24.2.2.2.1.2, SlRes 97 t21.1.Member.Events y24.2.2.2.2.1 y24.2.2.2.2.2]) rfl hs0 (fun w hs => (by have vv := c_spec_l01Below (p0 := p0) (W := w) h29 (hs0.kept hs.kept); exact vv)) (fun (y31 : Unit) => [(21, vi t28.1), (4, .p 2 0), (20, .q p0 0), (19, .v (vCase (Case.mk t21.1.Book (Store.mk l25) (Series.mk ([] : List Point)) t21.1.Member) (y24.1, y24.2.1, (none, 0), y24.2.2.2.1, y24.2.2.2.2))), (2, .p 0 0), (0, .q p0 0)]) (fun y31 => by kernel_rfl) (fun y31 => ?_)
     refine gn hm [21, 4, 19, 2, 0] [1, 1, 1, 1, 1] ?_
     refine htq 3 (vi (w64 (20 + t28.1))) [1, 1, 1, 1, 1] ?_
     refine hk [22, 4, 19, 2, 0] ?_
     refine ha1 4 ?_
     refine hi (fun γ0 δ hm => ?_)
     refine g1 (fun w hs => c_spec_OfficeNew (b0 := (y24.1, y24.2.1, (none, 0), y24.2.2.2.1, y24.2.2.2.2)) h33 (hs.view 2 rfl) (hs.view 1 rfl) (SlView.ofNil _) (hs.view 4 rfl) (hs.view 5 rfl)) (fun y35 => ?_)
     refine gn hm [23, 4, 2, 0] [7, 7, 7, 7, 7] ?_
     refine htq 5 (.v (.tuple #[vOffice t32.1 y35, .bool t32.2])) [7, 7, 7, 7, 7] ?_
     refine hk [18, 4, 2, 0] ?_
     refine htq 6 (.v (vOffice t32.1 y35)) [7, 7, 7, 7, 7] ?_
     refine htq 7 (vb t32.2) [7, 7, 7, 7, 7] ?_
     refine hk [25, 24, 4, 2, 0] ?_
     refine ha1 9 ?_
     refine hi (fun γ0 δ hm => ?_)
     refine gs [(25, vb t32.2), (24, .v (vOffice t32.1 y35)), (4, .p 2 0), (2, .p 0 0), (0, .q p0 0)] [(56, [.slice none 0 0, .slice none 0 0, .slice none 0 0, .int .i64 0, .int .i64 0, .slice none 0 0, .slice none 0 0, .int .i64 0, .slice none 0 0]), (38, (eCase (Case.mk t21.1.Book (Store.mk l25) (Series.mk ([] : List Point)) t21.1.Member) (y24.1, y24.2.1, (none, 0), y24.2.2.2.1, y24.2.2.2.2))), (56, (eOffice t32.1 y35))] (fun δ2 => ?_)
     refine gd hm [25, 4, 2, 0] [7, 7, 7, 7, 7] ?_
     refine htq 10 (vb t32.2) [7, 7, 7, 7, 7] ?_
     refine hk [4, 2, 0] ?_
     exact hd y35 [4, 2, 0] [0, 0, 0, 0, 0, 0, 1, 1, 1, 1, 1, 0] 3
 refine nt (qs (qs (qr (oN 1 [(6, vi 0)] [4, 2, 0] ?_))))
 refine oe (nt ?_)
 obtain ⟨r40, hL41, h42⟩ := bS h34
 obtain ⟨k43, hk44, h42⟩ := brkS h42
 refine JC_cutP (τ := (Int × Int × Int × Int × Int × Int × Int × (List Rule) × (List Fact) × (List Point) × Int × Int × (List Spell) × (List Event) × Int × (List Int)) × (AC × AC × AC × AC × AC × AC)) (fun y => k43 y.1 = some r) (fun y48 => [(4, .p 2 0), (2, .p 0 0), (0, .q p0 0)]) (fun y48 => [(56, [.slice none 0 0, .slice none 0 0, .slice none 0 0, .int .i64 y48.1.2.2.1, .int .i64 y48.1.2.2.2.1, .slice none 0 0, .slice none 0 0, .int .i64 y48.1.2.2.2.2.1, .slice none 0 0]), (38, (eCase (Case.mk t21.1.Book (Store.mk l25) (Series.mk ([] : List Point)) (Member.mk y48.1.2.2.2.2.2.1 y48.1.2.2.2.2.2.2.1 t21.1.Member.Spells t21.1.Member.Events)) (y24.1, y24.2.1, (none, 0), y24.2.2.2.1, y24.2.2.2.2))), (56, (eOffice (Office.mk (Case.mk (Book.mk y48.1.2.2.2.2.2.2.2.1) (Store.mk y48.1.2.2.2.2.2.2.2.2.1) (Series.mk y48.1.2.2.2.2.2.2.2.2.2.1) (Member.mk y48.1.2.2.2.2.2.2.2.2.2.2.1 y48.1.2.2.2.2.2.2.2.2.2.2.2.1 y48.1.2.2.2.2.2.2.2.2.2.2.2.2.1 y48.1.2.2.2.2.2.2.2.2.2.2.2.2.2.1)) y48.1.2.2.2.2.2.2.2.2.2.2.2.2.2.2.1 y48.1.2.2.2.2.2.2.2.2.2.2.2.2.2.2.2) y48.2))]) (fun y48 => [SlRes 48 t21.1.Book.Rules y24.1.1 y24.1.2, SlRes 79 l25 y24.2.1.1 y24.2.1.2, SlRes 94 t21.1.Member.Spells y24.2.2.2.1.1 y24.2.2.2.1.2, SlRes 97 t21.1.Member.Events y24.2.2.2.2.1 y24.2.2.2.2.2, SlRes 48 y48.1.2.2.2.2.2.2.2.1 y48.2.1.1 y48.2.1.2, SlRes 79 y48.1.2.2.2.2.2.2.2.2.1 y48.2.2.1.1 y48.2.2.1.2, SlRes 75 y48.1.2.2.2.2.2.2.2.2.2.1 y48.2.2.2.1.1 y48.2.2.2.1.2, SlRes 94 y48.1.2.2.2.2.2.2.2.2.2.2.2.2.1 y48.2.2.2.2.1.1 y48.2.2.2.2.1.2, SlRes 97 y48.1.2.2.2.2.2.2.2.2.2.2.2.2.2.1 y48.2.2.2.2.2.1.1 y48.2.2.2.2.2.1.2, SlRes 3 y48.1.2.2.2.2.2.2.2.2.2.2.2.2.2.2.2 y48.2.2.2.2.2.2.1 y48.2.2.2.2.2.2.2, CurRes 106 (CurD.mk xb0 y48.1.1 y48.1.2.1) p0 ca0 cc0]) ?_ (fun y48 h49p => ?_)
 · refine qb (lp (AC × AC × AC × AC × AC × AC) hL41 (fun s37 y38 => [(6, vi s37.1), (4, .p 2 0), (2, .p 0 0), (0, .q p0 0)]) (fun s37 y38 => [(56, [.slice none 0 0, .slice none 0 0, .slice none 0 0, .int .i64 0, .int .i64 0, .slice none 0 0, .slice none 0 0, .int .i64 0, .slice none 0 0]), (38, (eCase (Case.mk t21.1.Book (Store.mk l25) (Series.mk ([] : List Point)) t21.1.Member) (y24.1, y24.2.1, (none, 0), y24.2.2.2.1, y24.2.2.2.2))), (56, (eOffice (Office.mk (Case.mk (Book.mk s37.2.2.2.1) (Store.mk s37.2.2.2.2.1) (Series.mk s37.2.2.2.2.2.1) (Member.mk s37.2.2.2.2.2.2.1 s37.2.2.2.2.2.2.2.1 s37.2.2.2.2.2.2.2.2.1 s37.2.2.2.2.2.2.2.2.2.1)) s37.2.2.2.2.2.2.2.2.2.2.1 s37.2.2.2.2.2.2.2.2.2.2.2) y38))]) (fun s37 y38 => [SlRes 48 t21.1.Book.Rules y24.1.1 y24.1.2, SlRes 79 l25 y24.2.1.1 y24.2.1.2, SlRes 94 t21.1.Member.Spells y24.2.2.2.1.1 y24.2.2.2.1.2, SlRes 97 t21.1.Member.Events y24.2.2.2.2.1 y24.2.2.2.2.2, SlRes 48 s37.2.2.2.1 y38.1.1 y38.1.2, SlRes 79 s37.2.2.2.2.1 y38.2.1.1 y38.2.1.2, SlRes 75 s37.2.2.2.2.2.1 y38.2.2.1.1 y38.2.2.1.2, SlRes 94 s37.2.2.2.2.2.2.2.2.1 y38.2.2.2.1.1 y38.2.2.2.1.2, SlRes 97 s37.2.2.2.2.2.2.2.2.2.1 y38.2.2.2.2.1.1 y38.2.2.2.2.1.2, SlRes 3 s37.2.2.2.2.2.2.2.2.2.2.2 y38.2.2.2.2.2.1 y38.2.2.2.2.2.2, CurRes 106 (CurD.mk xb0 s37.2.1 s37.2.2.1) p0 ca0 cc0]) ((y36.1.1, y36.1.2), (y36.2.1.1, y36.2.1.2), (y36.2.2.1.1, y36.2.2.1.2), (y36.2.2.2.1.1, y36.2.2.2.1.2), (y36.2.2.2.2.1.1, y36.2.2.2.2.1.2), (y36.2.2.2.2.2.1, y36.2.2.2.2.2.2)) [6, 4, 2, 0] [7, 6, 7, 7, 0, 0, 0, 0, 0, 0, 1] 3 (fun s37 y38 t39 h45 hd46 => ?_))
   refine qs (qs (qr (oN 2 [(27, .q p0 0), (26, vi s37.1)] [6, 4, 2, 0] ?_)))
   refine JO_res (R' := [CurRes 106 (CurD.mk xb0 s37.2.1 s37.2.2.1) p0 ca0 cc0, SlRes 48 t21.1.Book.Rules y24.1.1 y24.1.2, SlRes 79 l25 y24.2.1.1 y24.2.1.2, SlRes 94 t21.1.Member.Spells y24.2.2.2.1.1 y24.2.2.2.1.2, SlRes 97 t21.1.Member.Events y24.2.2.2.2.1 y24.2.2.2.2.2, SlRes 48 s37.2.2.2.1 y38.1.1 y38.1.2, SlRes 79 s37.2.2.2.2.1 y38.2.1.1 y38.2.1.2, SlRes 75 s37.2.2.2.2.2.1 y38.2.2.1.1 y38.2.2.1.2, SlRes 94 s37.2.2.2.2.2.2.2.2.1 y38.2.2.2.1.1 y38.2.2.2.1.2, SlRes 97 s37.2.2.2.2.2.2.2.2.2.1 y38.2.2.2.2.1.1 y38.2.2.2.2.1.2, SlRes 3 s37.2.2.2.2.2.2.2.2.2.2.2 y38.2.2.2.2.2.1 y38.2.2.2.2.2.2]) [10, 0, 0, 0, 0, 0, 0, 0, 0, 0, 0] (by kernel_rfl) ?_
   obtain ⟨t50, h51, h52⟩ := bS h45
   refine JO_callC rfl (by kernel_rfl) (f := 23) (args := fun γ => #[(SV.q p0 0).den [], .int .i64 8]) (fun γ => by kernel_rfl) (x0 := CurD.mk xb0 s37.2.1 s37.2.2.1) (x1 := CurD.mk xb0 t50.2.1 t50.2.2) (Rr := [SlRes 48 t21.1.Book.Rules y24.1.1 y24.1.2, SlRes 79 l25 y24.2.1.1 y24.2.1.2, SlRes 94 t21.1.Member.Spells y24.2.2.2.1.1 y24.2.2.2.1.2, SlRes 97 t21.1.Member.Events y24.2.2.2.2.1 y24.2.2.2.2.2, SlRes 48 s37.2.2.2.1 y38.1.1 y38.1.2, SlRes 79 s37.2.2.2.2.1 y38.2.1.1 y38.2.1.2, SlRes 75 s37.2.2.2.2.2.1 y38.2.2.1.1 y38.2.2.1.2, SlRes 94 s37.2.2.2.2.2.2.2.2.1 y38.2.2.2.1.1 y38.2.2.2.1.2, SlRes 97 s37.2.2.2.2.2.2.2.2.2.1 y38.2.2.2.2.1.1 y38.2.2.2.2.1.2, SlRes 3 s37.2.2.2.2.2.2.2.2.2.2.2 y38.2.2.2.2.2.1 y38.2.2.2.2.2.2]) rfl hs0 (fun γ w hs => (by have vv := c_spec_l01Below (p0 := p0) (W := w) h51 (hs0.kept hs.kept); exact vv)) (fun (y53 : Unit) => [(28, vi t50.1), (27, .q p0 0), (26, vi s37.1), (6, vi s37.1), (4, .p 2 0), (2, .p 0 0), (0, .q p0 0)]) (fun y53 => by kernel_rfl) (fun y53 => ?_)
   refine oN 1 [(29, vb (decide (s37.1 < t50.1)))] [6, 4, 2, 0] ?_
   refine oe (nt (cC h52 (fun h55 => ?_) (fun h56 => ?_)))
   · refine qk (nt (qs (qb (qs (qr (oN 1 [(32, .q p0 0)] [6, 4, 2, 0] ?_))))))
     obtain ⟨t57, h58, h59⟩ := bS h55
     refine JO_callC rfl (by kernel_rfl) (f := 23) (args := fun γ => #[(SV.q p0 0).den [], .int .i64 4]) (fun γ => by kernel_rfl) (x0 := CurD.mk xb0 t50.2.1 t50.2.2) (x1 := CurD.mk xb0 t57.2.1 t57.2.2) (Rr := [SlRes 48 t21.1.Book.Rules y24.1.1 y24.1.2, SlRes 79 l25 y24.2.1.1 y24.2.1.2, SlRes 94 t21.1.Member.Spells y24.2.2.2.1.1 y24.2.2.2.1.2, SlRes 97 t21.1.Member.Events y24.2.2.2.2.1 y24.2.2.2.2.2, SlRes 48 s37.2.2.2.1 y38.1.1 y38.1.2, SlRes 79 s37.2.2.2.2.1 y38.2.1.1 y38.2.1.2, SlRes 75 s37.2.2.2.2.2.1 y38.2.2.1.1 y38.2.2.1.2, SlRes 94 s37.2.2.2.2.2.2.2.2.1 y38.2.2.2.1.1 y38.2.2.2.1.2, SlRes 97 s37.2.2.2.2.2.2.2.2.2.1 y38.2.2.2.2.1.1 y38.2.2.2.2.1.2, SlRes 3 s37.2.2.2.2.2.2.2.2.2.2.2 y38.2.2.2.2.2.1 y38.2.2.2.2.2.2]) rfl hs0 (fun γ w hs => (by have vv := c_spec_l01Below (p0 := p0) (W := w) h58 (hs0.kept hs.kept); exact vv)) (fun (y60 : Unit) => [(33, vi t57.1), (32, .q p0 0), (6, vi s37.1), (4, .p 2 0), (2, .p 0 0), (0, .q p0 0)]) (fun y60 => by kernel_rfl) (fun y60 => ?_)
     refine oe (nt (qb (qs (qr (oN 2 [(40, vb (t57.1 == 0))] [33, 6, 4, 2, 0] ?_)))))
     refine oe (nt ?_)
     obtain ⟨k92, hk93, h95⟩ := jS h59
     refine JC_cutP (τ := (Int × Int × (List Rule) × (List Fact) × (List Point) × Int × Int × (List Spell) × (List Event) × Int × (List Int)) × (AC × AC × AC × AC × AC × AC)) (fun y => k92 y.1 = some t39) (fun y91 => [(6, vi s37.1), (4, .p 2 0), (2, .p 0 0), (0, .q p0 0)]) (fun y91 => [(56, [.slice none 0 0, .slice none 0 0, .slice none 0 0, .int .i64 0, .int .i64 0, .slice none 0 0, .slice none 0 0, .int .i64 0, .slice none 0 0]), (38, (eCase (Case.mk t21.1.Book (Store.mk l25) (Series.mk ([] : List Point)) t21.1.Member) (y24.1, y24.2.1, (none, 0), y24.2.2.2.1, y24.2.2.2.2))), (56, (eOffice (Office.mk (Case.mk (Book.mk y91.1.2.2.1) (Store.mk y91.1.2.2.2.1) (Series.mk y91.1.2.2.2.2.1) (Member.mk y91.1.2.2.2.2.2.1 y91.1.2.2.2.2.2.2.1 y91.1.2.2.2.2.2.2.2.1 y91.1.2.2.2.2.2.2.2.2.1)) y91.1.2.2.2.2.2.2.2.2.2.1 y91.1.2.2.2.2.2.2.2.2.2.2) y91.2))]) (fun y91 => [SlRes 48 t21.1.Book.Rules y24.1.1 y24.1.2, SlRes 79 l25 y24.2.1.1 y24.2.1.2, SlRes 94 t21.1.Member.Spells y24.2.2.2.1.1 y24.2.2.2.1.2, SlRes 97 t21.1.Member.Events y24.2.2.2.2.1 y24.2.2.2.2.2, SlRes 48 y91.1.2.2.1 y91.2.1.1 y91.2.1.2, SlRes 79 y91.1.2.2.2.1 y91.2.2.1.1 y91.2.2.1.2, SlRes 75 y91.1.2.2.2.2.1 y91.2.2.2.1.1 y91.2.2.2.1.2, SlRes 94 y91.1.2.2.2.2.2.2.2.1 y91.2.2.2.2.1.1 y91.2.2.2.2.1.2, SlRes 97 y91.1.2.2.2.2.2.2.2.2.1 y91.2.2.2.2.2.1.1 y91.2.2.2.2.2.1.2, SlRes 3 y91.1.2.2.2.2.2.2.2.2.2.2 y91.2.2.2.2.2.2.1 y91.2.2.2.2.2.2.2, CurRes 106 (CurD.mk xb0 y91.1.1 y91.1.2.1) p0 ca0 cc0]) ?_ (fun y91 h94p => ?_)
     · refine cC h95 (fun h97 => ?_) (fun h98 => ?_)
       · refine qs (qr (oN 1 [(42, .q p0 0)] [6, 4, 2, 0] ?_))
         obtain ⟨t99, h100, h101⟩ := bS h97
         refine JO_callC rfl (by kernel_rfl) (f := 76) (args := fun γ => #[(SV.q p0 0).den [], .int .i64 0]) (fun γ => by kernel_rfl) (x0 := CurD.mk xb0 t57.2.1 t57.2.2) (x1 := CurD.mk xb0 t99.2.1 t99.2.2) (Rr := [SlRes 48 t21.1.Book.Rules y24.1.1 y24.1.2, SlRes 79 l25 y24.2.1.1 y24.2.1.2, SlRes 94 t21.1.Member.Spells y24.2.2.2.1.1 y24.2.2.2.1.2, SlRes 97 t21.1.Member.Events y24.2.2.2.2.1 y24.2.2.2.2.2, SlRes 48 s37.2.2.2.1 y38.1.1 y38.1.2, SlRes 79 s37.2.2.2.2.1 y38.2.1.1 y38.2.1.2, SlRes 75 s37.2.2.2.2.2.1 y38.2.2.1.1 y38.2.2.1.2, SlRes 94 s37.2.2.2.2.2.2.2.2.1 y38.2.2.2.1.1 y38.2.2.2.1.2, SlRes 97 s37.2.2.2.2.2.2.2.2.2.1 y38.2.2.2.2.1.1 y38.2.2.2.2.1.2, SlRes 3 s37.2.2.2.2.2.2.2.2.2.2.2 y38.2.2.2.2.2.1 y38.2.2.2.2.2.2]) rfl hs0 (fun γ w hs => (by have vv := c_spec_l05Fact (p0 := p0) (W := w) h100 (hs0.kept hs.kept); exact vv)) (fun (y102 : Unit) => [(43, .v (vFact t99.1)), (42, .q p0 0), (6, vi s37.1), (4, .p 2 0), (2, .p 0 0), (0, .q p0 0)]) (fun y102 => by kernel_rfl) (fun y102 => ?_)
         refine oB 2 [(7, .p 3 0)] [6, 4, 2, 0] [(56, [.slice none 0 0, .slice none 0 0, .slice none 0 0, .int .i64 0, .int .i64 0, .slice none 0 0, .slice none 0 0, .int .i64 0, .slice none 0 0]), (38, (eCase (Case.mk t21.1.Book (Store.mk l25) (Series.mk ([] : List Point)) t21.1.Member) (y24.1, y24.2.1, (none, 0), y24.2.2.2.1, y24.2.2.2.2))), (56, (eOffice (Office.mk (Case.mk (Book.mk s37.2.2.2.1) (Store.mk s37.2.2.2.2.1) (Series.mk s37.2.2.2.2.2.1) (Member.mk s37.2.2.2.2.2.2.1 s37.2.2.2.2.2.2.2.1 s37.2.2.2.2.2.2.2.2.1 s37.2.2.2.2.2.2.2.2.2.1)) s37.2.2.2.2.2.2.2.2.2.2.1 s37.2.2.2.2.2.2.2.2.2.2.2) y38)), (79, (eFact t99.1))] ?_
         refine oe (nt (qs (qr (oB 2 [] [7, 6, 4, 2, 0] [(56, [.slice none 0 0, .slice none 0 0, .slice none 0 0, .int .i64 0, .int .i64 0, .slice none 0 0, .slice none 0 0, .int .i64 0, .slice none 0 0]), (38, (eCase (Case.mk t21.1.Book (Store.mk l25) (Series.mk ([] : List Point)) t21.1.Member) (y24.1, y24.2.1, (none, 0), y24.2.2.2.1, y24.2.2.2.2))), (56, (eOffice (Office.mk (Case.mk (Book.mk s37.2.2.2.1) (Store.mk s37.2.2.2.2.1) (Series.mk s37.2.2.2.2.2.1) (Member.mk s37.2.2.2.2.2.2.1 s37.2.2.2.2.2.2.2.1 s37.2.2.2.2.2.2.2.2.1 s37.2.2.2.2.2.2.2.2.2.1)) s37.2.2.2.2.2.2.2.2.2.2.1 s37.2.2.2.2.2.2.2.2.2.2.2) y38)), (79, (eFact (Fact.mk 1 t99.1.From t99.1.To t99.1.Known t99.1.Value)))] ?_))))
         refine oe (nt (qs (qr (oB 5 [] [7, 6, 4, 2, 0] [(56, [.slice none 0 0, .slice none 0 0, .slice none 0 0, .int .i64 0, .int .i64 0, .slice none 0 0, .slice none 0 0, .int .i64 0, .slice none 0 0]), (38, (eCase (Case.mk t21.1.Book (Store.mk l25) (Series.mk ([] : List Point)) t21.1.Member) (y24.1, y24.2.1, (none, 0), y24.2.2.2.1, y24.2.2.2.2))), (56, (eOffice (Office.mk (Case.mk (Book.mk s37.2.2.2.1) (Store.mk s37.2.2.2.2.1) (Series.mk s37.2.2.2.2.2.1) (Member.mk s37.2.2.2.2.2.2.1 s37.2.2.2.2.2.2.2.1 s37.2.2.2.2.2.2.2.2.1 s37.2.2.2.2.2.2.2.2.2.1)) s37.2.2.2.2.2.2.2.2.2.2.1 s37.2.2.2.2.2.2.2.2.2.2.2) y38)), (79, (eFact (Fact.mk 1 t99.1.From t99.1.To t99.1.Known (w64 (t99.1.Value + 150000)))))] ?_))))
         refine oe (nt (qr (oN 2 [(51, .v (vFact (Fact.mk 1 t99.1.From t99.1.To t99.1.Known (w64 (t99.1.Value + 150000))))), (50, .v (vOffice (Office.mk (Case.mk (Book.mk s37.2.2.2.1) (Store.mk s37.2.2.2.2.1) (Series.mk s37.2.2.2.2.2.1) (Member.mk s37.2.2.2.2.2.2.1 s37.2.2.2.2.2.2.2.1 s37.2.2.2.2.2.2.2.2.1 s37.2.2.2.2.2.2.2.2.2.1)) s37.2.2.2.2.2.2.2.2.2.2.1 s37.2.2.2.2.2.2.2.2.2.2.2) y38))] [6, 4, 2, 0] ?_)))
         obtain ⟨t103, h104, h105⟩ := bS h101
         refine k1 (fun γ w hs => c_spec_LearnFact (b0 := y38) h104 (hs.view 5 rfl) (hs.view 6 rfl) (hs.view 7 rfl) (hs.view 8 rfl) (hs.view 9 rfl) (hs.view 10 rfl)) (fun y106 => ?_)
         refine oB 4 [] [6, 4, 2, 0] [(56, [.slice none 0 0, .slice none 0 0, .slice none 0 0, .int .i64 0, .int .i64 0, .slice none 0 0, .slice none 0 0, .int .i64 0, .slice none 0 0]), (38, (eCase (Case.mk t21.1.Book (Store.mk l25) (Series.mk ([] : List Point)) t21.1.Member) (y24.1, y24.2.1, (none, 0), y24.2.2.2.1, y24.2.2.2.2))), (56, (eOffice t103.1 y106)), (79, (eFact (Fact.mk 1 t99.1.From t99.1.To t99.1.Known (w64 (t99.1.Value + 150000)))))] ?_
         exact oe (mp ((t99.2.1, t99.2.2, t103.1.Case.Book.Rules, t103.1.Case.Store.Facts, t103.1.Case.Series.Points, t103.1.Case.Member.Birth, t103.1.Case.Member.Joined, t103.1.Case.Member.Spells, t103.1.Case.Member.Events, t103.1.Start, t103.1.Paid), ((y106.1.1, y106.1.2), (y106.2.1.1, y106.2.1.2), (y106.2.2.1.1, y106.2.2.1.2), (y106.2.2.2.1.1, y106.2.2.2.1.2), (y106.2.2.2.2.1.1, y106.2.2.2.2.1.2), (y106.2.2.2.2.2.1, y106.2.2.2.2.2.2))) h105 [6, 4, 2, 0] [7, 7, 7, 7, 0, 0, 0, 0, 0, 0, 0] 3)
       refine qs (qr (oN 2 [(55, vb (t57.1 == 1))] [6, 4, 2, 0] ?_))
       refine oe (nt (cC h98 (fun h108 => ?_) (fun h109 => ?_)))
       · obtain ⟨t110, h111, h112⟩ := bS h108
         obtain ⟨t114, h115, h116⟩ := bS h112
         obtain ⟨t118, h119, h120⟩ := bS h116
         refine JC_cut (τ := (AC × AC × AC × AC × AC × AC)) (fun y122 => [(6, vi s37.1), (4, .p 2 0), (2, .p 0 0), (0, .q p0 0)]) (fun y122 => [(56, [.slice none 0 0, .slice none 0 0, .slice none 0 0, .int .i64 0, .int .i64 0, .slice none 0 0, .slice none 0 0, .int .i64 0, .slice none 0 0]), (38, (eCase (Case.mk t21.1.Book (Store.mk l25) (Series.mk ([] : List Point)) t21.1.Member) (y24.1, y24.2.1, (none, 0), y24.2.2.2.1, y24.2.2.2.2))), (56, (eOffice t118.1 y122))]) (fun y122 => [SlRes 48 t118.1.Case.Book.Rules y122.1.1 y122.1.2, SlRes 79 t118.1.Case.Store.Facts y122.2.1.1 y122.2.1.2, SlRes 75 t118.1.Case.Series.Points y122.2.2.1.1 y122.2.2.1.2, SlRes 94 t118.1.Case.Member.Spells y122.2.2.2.1.1 y122.2.2.2.1.2, SlRes 97 t118.1.Case.Member.Events y122.2.2.2.2.1.1 y122.2.2.2.2.1.2, SlRes 3 t118.1.Paid y122.2.2.2.2.2.1 y122.2.2.2.2.2.2, CurRes 106 (CurD.mk xb0 t114.2.1 t114.2.2) p0 ca0 cc0, SlRes 48 t21.1.Book.Rules y24.1.1 y24.1.2, SlRes 79 l25 y24.2.1.1 y24.2.1.2, SlRes 94 t21.1.Member.Spells y24.2.2.2.1.1 y24.2.2.2.1.2, SlRes 97 t21.1.Member.Events y24.2.2.2.2.1 y24.2.2.2.2.2, SlRes 48 s37.2.2.2.1 y38.1.1 y38.1.2, SlRes 79 s37.2.2.2.2.1 y38.2.1.1 y38.2.1.2, SlRes 75 s37.2.2.2.2.2.1 y38.2.2.1.1 y38.2.2.1.2, SlRes 94 s37.2.2.2.2.2.2.2.2.1 y38.2.2.2.1.1 y38.2.2.2.1.2, SlRes 97 s37.2.2.2.2.2.2.2.2.2.1 y38.2.2.2.2.1.1 y38.2.2.2.2.1.2, SlRes 3 s37.2.2.2.2.2.2.2.2.2.2.2 y38.2.2.2.2.2.1 y38.2.2.2.2.2.2]) ?_ (fun y122 => ?_)
         · refine JC_weak [6, 4, 2, 0] [0, 0, 0, 0, 0, 0, 0, 0, 0, 0, 0] 3 (sl' := [(6, vi s37.1), (4, .p 2 0), (2, .p 0 0), (0, .q p0 0)]) (bx' := [(56, [.slice none 0 0, .slice none 0 0, .slice none 0 0, .int .i64 0, .int .i64 0, .slice none 0 0, .slice none 0 0, .int .i64 0, .slice none 0 0]), (38, (eCase (Case.mk t21.1.Book (Store.mk l25) (Series.mk ([] : List Point)) t21.1.Member) (y24.1, y24.2.1, (none, 0), y24.2.2.2.1, y24.2.2.2.2))), (56, (eOffice (Office.mk (Case.mk (Book.mk s37.2.2.2.1) (Store.mk s37.2.2.2.2.1) (Series.mk s37.2.2.2.2.2.1) (Member.mk s37.2.2.2.2.2.2.1 s37.2.2.2.2.2.2.2.1 s37.2.2.2.2.2.2.2.2.1 s37.2.2.2.2.2.2.2.2.2.1)) s37.2.2.2.2.2.2.2.2.2.2.1 s37.2.2.2.2.2.2.2.2.2.2.2) y38))]) (R' := [CurRes 106 (CurD.mk xb0 t57.2.1 t57.2.2) p0 ca0 cc0, SlRes 48 t21.1.Book.Rules y24.1.1 y24.1.2, SlRes 79 l25 y24.2.1.1 y24.2.1.2, SlRes 94 t21.1.Member.Spells y24.2.2.2.1.1 y24.2.2.2.1.2, SlRes 97 t21.1.Member.Events y24.2.2.2.2.1 y24.2.2.2.2.2, SlRes 48 s37.2.2.2.1 y38.1.1 y38.1.2, SlRes 79 s37.2.2.2.2.1 y38.2.1.1 y38.2.1.2, SlRes 75 s37.2.2.2.2.2.1 y38.2.2.1.1 y38.2.2.1.2, SlRes 94 s37.2.2.2.2.2.2.2.2.1 y38.2.2.2.1.1 y38.2.2.2.1.2, SlRes 97 s37.2.2.2.2.2.2.2.2.2.1 y38.2.2.2.2.1.1 y38.2.2.2.2.1.2, SlRes 3 s37.2.2.2.2.2.2.2.2.2.2.2 y38.2.2.2.2.2.1 y38.2.2.2.2.2.2]) (by kernel_rfl) (by kernel_rfl) (by kernel_rfl) (by kernel_rfl) ?_
           refine JC_heldN (ks := [0, 1]) (Rk := [SlRes 48 t21.1.Book.Rules y24.1.1 y24.1.2, SlRes 79 l25 y24.2.1.1 y24.2.1.2, SlRes 94 t21.1.Member.Spells y24.2.2.2.1.1 y24.2.2.2.1.2, SlRes 97 t21.1.Member.Events y24.2.2.2.2.1 y24.2.2.2.2.2, SlRes 48 s37.2.2.2.1 y38.1.1 y38.1.2, SlRes 79 s37.2.2.2.2.1 y38.2.1.1 y38.2.1.2, SlRes 75 s37.2.2.2.2.2.1 y38.2.2.1.1 y38.2.2.1.2, SlRes 94 s37.2.2.2.2.2.2.2.2.1 y38.2.2.2.1.1 y38.2.2.2.1.2, SlRes 97 s37.2.2.2.2.2.2.2.2.2.1 y38.2.2.2.2.1.1 y38.2.2.2.2.1.2, SlRes 3 s37.2.2.2.2.2.2.2.2.2.2.2 y38.2.2.2.2.2.1 y38.2.2.2.2.2.2]) 12 (by kernel_rfl) (by kernel_rfl) ?_
           refine htq 1 (.q p0 0) [1, 1, 1, 1, 1, 1, 1, 1, 1, 1] ?_
           refine htq 3 (.q p0 0) [1, 1, 1, 1, 1, 1, 1, 1, 1, 1] ?_
           refine ha2 0 2 ?_ ?_
           · refine hi (fun γ0 δ hm => ?_)
             refine gs [(58, .v (vOffice (Office.mk (Case.mk (Book.mk s37.2.2.2.1) (Store.mk s37.2.2.2.2.1) (Series.mk s37.2.2.2.2.2.1) (Member.mk s37.2.2.2.2.2.2.1 s37.2.2.2.2.2.2.2.1 s37.2.2.2.2.2.2.2.2.1 s37.2.2.2.2.2.2.2.2.2.1)) s37.2.2.2.2.2.2.2.2.2.2.1 s37.2.2.2.2.2.2.2.2.2.2.2) y38)), (61, .q p0 0), (59, .q p0 0), (6, vi s37.1), (4, .p 2 0), (2, .p 0 0), (0, .q p0 0)] [(56, [.slice none 0 0, .slice none 0 0, .slice none 0 0, .int .i64 0, .int .i64 0, .slice none 0 0, .slice none 0 0, .int .i64 0, .slice none 0 0]), (38, (eCase (Case.mk t21.1.Book (Store.mk l25) (Series.mk ([] : List Point)) t21.1.Member) (y24.1, y24.2.1, (none, 0), y24.2.2.2.1, y24.2.2.2.2))), (56, (eOffice (Office.mk (Case.mk (Book.mk s37.2.2.2.1) (Store.mk s37.2.2.2.2.1) (Series.mk s37.2.2.2.2.2.1) (Member.mk s37.2.2.2.2.2.2.1 s37.2.2.2.2.2.2.2.1 s37.2.2.2.2.2.2.2.2.1 s37.2.2.2.2.2.2.2.2.2.1)) s37.2.2.2.2.2.2.2.2.2.2.1 s37.2.2.2.2.2.2.2.2.2.2.2) y38))] (fun δ2 => ?_)
             refine gd hm [58, 61, 59, 6, 4, 2, 0] [1, 1, 1, 1, 1, 1, 1, 1, 1, 1] ?_
             refine ha1 2 ?_
             refine hi (fun γ0 δ hm => ?_)
             refine JG_callC (by kernel_rfl) (f := 23) (args := #[(SV.q p0 0).den [], .int .i64 20]) (by kernel_rfl) (x0 := CurD.mk xb0 t57.2.1 t57.2.2) (x1 := CurD.mk xb0 t110.2.1 t110.2.2) (Rr := [SlRes 48 t21.1.Book.Rules y24.1.1 y24.1.2, SlRes 79 l25 y24.2.1.1 y24.2.1.2, SlRes 94 t21.1.Member.Spells y24.2.2.2.1.1 y24.2.2.2.1.2, SlRes 97 t21.1.Member.Events y24.2.2.2.2.1 y24.2.2.2.2.2, SlRes 48 s37.2.2.2.1 y38.1.1 y38.1.2, SlRes 79 s37.2.2.2.2.1 y38.2.1.1 y38.2.1.2, SlRes 75 s37.2.2.2.2.2.1 y38.2.2.1.1 y38.2.2.1.2, SlRes 94 s37.2.2.2.2.2.2.2.2.1 y38.2.2.2.1.1 y38.2.2.2.1.2, SlRes 97 s37.2.2.2.2.2.2.2.2.2.1 y38.2.2.2.2.1.1 y38.2.2.2.2.1.2, SlRes 3 s37.2.2.2.2.2.2.2.2.2.2.2 y38.2.2.2.2.2.1 y38.2.2.2.2.2.2]) rfl hs0 (fun w hs => (by have vv := c_spec_l01Below (p0 := p0) (W := w) h111 (hs0.kept hs.kept); exact vv)) (fun (y113 : Unit) => [(60, vi t110.1), (58, .v (vOffice (Office.mk (Case.mk (Book.mk s37.2.2.2.1) (Store.mk s37.2.2.2.2.1) (Series.mk s37.2.2.2.2.2.1) (Member.mk s37.2.2.2.2.2.2.1 s37.2.2.2.2.2.2.2.1 s37.2.2.2.2.2.2.2.2.1 s37.2.2.2.2.2.2.2.2.2.1)) s37.2.2.2.2.2.2.2.2.2.2.1 s37.2.2.2.2.2.2.2.2.2.2.2) y38)), (61, .q p0 0), (59, .q p0 0), (6, vi s37.1), (4, .p 2 0), (2, .p 0 0), (0, .q p0 0)]) (fun y113 => by kernel_rfl) (fun y113 => ?_)
             refine gn hm [60, 58, 61, 6, 4, 2, 0] [1, 1, 1, 1, 1, 1, 1, 1, 1, 1] ?_
             refine ha1 4 ?_
             refine hi (fun γ0 δ hm => ?_)
             refine JG_callC (by kernel_rfl) (f := 23) (args := #[(SV.q p0 0).den [], .int .i64 4000]) (by kernel_rfl) (x0 := CurD.mk xb0 t110.2.1 t110.2.2) (x1 := CurD.mk xb0 t114.2.1 t114.2.2) (Rr := [SlRes 48 t21.1.Book.Rules y24.1.1 y24.1.2, SlRes 79 l25 y24.2.1.1 y24.2.1.2, SlRes 94 t21.1.Member.Spells y24.2.2.2.1.1 y24.2.2.2.1.2, SlRes 97 t21.1.Member.Events y24.2.2.2.2.1 y24.2.2.2.2.2, SlRes 48 s37.2.2.2.1 y38.1.1 y38.1.2, SlRes 79 s37.2.2.2.2.1 y38.2.1.1 y38.2.1.2, SlRes 75 s37.2.2.2.2.2.1 y38.2.2.1.1 y38.2.2.1.2, SlRes 94 s37.2.2.2.2.2.2.2.2.1 y38.2.2.2.1.1 y38.2.2.2.1.2, SlRes 97 s37.2.2.2.2.2.2.2.2.2.1 y38.2.2.2.2.1.1 y38.2.2.2.2.1.2, SlRes 3 s37.2.2.2.2.2.2.2.2.2.2.2 y38.2.2.2.2.2.1 y38.2.2.2.2.2.2]) rfl hs0 (fun w hs => (by have vv := c_spec_l01Below (p0 := p0) (W := w) h115 (hs0.kept hs.kept); exact vv)) (fun (y117 : Unit) => [(62, vi t114.1), (60, vi t110.1), (58, .v (vOffice (Office.mk (Case.mk (Book.mk s37.2.2.2.1) (Store.mk s37.2.2.2.2.1) (Series.mk s37.2.2.2.2.2.1) (Member.mk s37.2.2.2.2.2.2.1 s37.2.2.2.2.2.2.2.1 s37.2.2.2.2.2.2.2.2.1 s37.2.2.2.2.2.2.2.2.2.1)) s37.2.2.2.2.2.2.2.2.2.2.1 s37.2.2.2.2.2.2.2.2.2.2.2) y38)), (61, .q p0 0), (6, vi s37.1), (4, .p 2 0), (2, .p 0 0), (0, .q p0 0)]) (fun y117 => by kernel_rfl) (fun y117 => ?_)
             refine gn hm [62, 60, 58, 6, 4, 2, 0] [1, 1, 1, 1, 1, 1, 1, 1, 1, 1] ?_
             refine htq 5 (vi (w64 (9000 + t114.1))) [1, 1, 1, 1, 1, 1, 1, 1, 1, 1] ?_
             refine hk [63, 60, 58, 6, 4, 2, 0] ?_
             refine htq 6 (.v (vPoint (Point.mk t110.1 0 (w64 (9000 + t114.1))))) [1, 1, 1, 1, 1, 1, 1, 1, 1, 1] ?_
             refine hk [64, 58, 6, 4, 2, 0] ?_
             refine ha1 7 ?_
             refine hi (fun γ0 δ hm => ?_)
             refine g1 (fun w hs => c_spec_LearnPoint (b0 := y38) h119 (hs.view 5 rfl) (hs.view 6 rfl) (hs.view 7 rfl) (hs.view 8 rfl) (hs.view 9 rfl) (hs.view 10 rfl)) (fun y121 => ?_)
             refine gn hm [65, 6, 4, 2, 0] [7, 7, 7, 7, 7, 7, 7, 7, 7, 7] ?_
             refine htq 8 (.v (.tuple #[vOffice t118.1 y121, .bool t118.2])) [7, 7, 7, 7, 7, 7, 7, 7, 7, 7] ?_
             refine hk [57, 6, 4, 2, 0] ?_
             refine htq 9 (.v (vOffice t118.1 y121)) [7, 7, 7, 7, 7, 7, 7, 7, 7, 7] ?_
             refine htq 10 (vb t118.2) [7, 7, 7, 7, 7, 7, 7, 7, 7, 7] ?_
             refine hk [66, 6, 4, 2, 0] ?_
             refine ha1 11 ?_
             refine hi (fun γ0 δ hm => ?_)
             refine gs [(66, .v (vOffice t118.1 y121)), (6, vi s37.1), (4, .p 2 0), (2, .p 0 0), (0, .q p0 0)] [(56, [.slice none 0 0, .slice none 0 0, .slice none 0 0, .int .i64 0, .int .i64 0, .slice none 0 0, .slice none 0 0, .int .i64 0, .slice none 0 0]), (38, (eCase (Case.mk t21.1.Book (Store.mk l25) (Series.mk ([] : List Point)) t21.1.Member) (y24.1, y24.2.1, (none, 0), y24.2.2.2.1, y24.2.2.2.2))), (56, (eOffice t118.1 y121))] (fun δ2 => ?_)
             refine gd hm [6, 4, 2, 0] [7, 7, 7, 7, 7, 7, 7, 7, 7, 7] ?_
             exact hd y121 [6, 4, 2, 0] [0, 0, 0, 0, 0, 0, 0, 0, 0, 0, 0, 0, 0, 0, 0, 0, 0] 3
           · refine hi (fun γ0 δ hm => ?_)
             refine JG_callC (by kernel_rfl) (f := 23) (args := #[(SV.q p0 0).den [], .int .i64 20]) (by kernel_rfl) (x0 := CurD.mk xb0 t57.2.1 t57.2.2) (x1 := CurD.mk xb0 t110.2.1 t110.2.2) (Rr := [SlRes 48 t21.1.Book.Rules y24.1.1 y24.1.2, SlRes 79 l25 y24.2.1.1 y24.2.1.2, SlRes 94 t21.1.Member.Spells y24.2.2.2.1.1 y24.2.2.2.1.2, SlRes 97 t21.1.Member.Events y24.2.2.2.2.1 y24.2.2.2.2.2, SlRes 48 s37.2.2.2.1 y38.1.1 y38.1.2, SlRes 79 s37.2.2.2.2.1 y38.2.1.1 y38.2.1.2, SlRes 75 s37.2.2.2.2.2.1 y38.2.2.1.1 y38.2.2.1.2, SlRes 94 s37.2.2.2.2.2.2.2.2.1 y38.2.2.2.1.1 y38.2.2.2.1.2, SlRes 97 s37.2.2.2.2.2.2.2.2.2.1 y38.2.2.2.2.1.1 y38.2.2.2.2.1.2, SlRes 3 s37.2.2.2.2.2.2.2.2.2.2.2 y38.2.2.2.2.2.1 y38.2.2.2.2.2.2]) rfl hs0 (fun w hs => (by have vv := c_spec_l01Below (p0 := p0) (W := w) h111 (hs0.kept hs.kept); exact vv)) (fun (y113 : Unit) => [(60, vi t110.1), (61, .q p0 0), (59, .q p0 0), (6, vi s37.1), (4, .p 2 0), (2, .p 0 0), (0, .q p0 0)]) (fun y113 => by kernel_rfl) (fun y113 => ?_)
             refine gn hm [60, 61, 6, 4, 2, 0] [1, 1, 1, 1, 1, 1, 1, 1, 1, 1] ?_
             refine ha2 0 4 ?_ ?_
             · refine hi (fun γ0 δ hm => ?_)
               refine gs [(58, .v (vOffice (Office.mk (Case.mk (Book.mk s37.2.2.2.1) (Store.mk s37.2.2.2.2.1) (Series.mk s37.2.2.2.2.2.1) (Member.mk s37.2.2.2.2.2.2.1 s37.2.2.2.2.2.2.2.1 s37.2.2.2.2.2.2.2.2.1 s37.2.2.2.2.2.2.2.2.2.1)) s37.2.2.2.2.2.2.2.2.2.2.1 s37.2.2.2.2.2.2.2.2.2.2.2) y38)), (60, vi t110.1), (61, .q p0 0), (6, vi s37.1), (4, .p 2 0), (2, .p 0 0), (0, .q p0 0)] [(56, [.slice none 0 0, .slice none 0 0, .slice none 0 0, .int .i64 0, .int .i64 0, .slice none 0 0, .slice none 0 0, .int .i64 0, .slice none 0 0]), (38, (eCase (Case.mk t21.1.Book (Store.mk l25) (Series.mk ([] : List Point)) t21.1.Member) (y24.1, y24.2.1, (none, 0), y24.2.2.2.1, y24.2.2.2.2))), (56, (eOffice (Office.mk (Case.mk (Book.mk s37.2.2.2.1) (Store.mk s37.2.2.2.2.1) (Series.mk s37.2.2.2.2.2.1) (Member.mk s37.2.2.2.2.2.2.1 s37.2.2.2.2.2.2.2.1 s37.2.2.2.2.2.2.2.2.1 s37.2.2.2.2.2.2.2.2.2.1)) s37.2.2.2.2.2.2.2.2.2.2.1 s37.2.2.2.2.2.2.2.2.2.2.2) y38))] (fun δ2 => ?_)
               refine gd hm [58, 60, 61, 6, 4, 2, 0] [1, 1, 1, 1, 1, 1, 1, 1, 1, 1] ?_
               refine ha1 4 ?_
               refine hi (fun γ0 δ hm => ?_)
               refine JG_callC (by kernel_rfl) (f := 23) (args := #[(SV.q p0 0).den [], .int .i64 4000]) (by kernel_rfl) (x0 := CurD.mk xb0 t110.2.1 t110.2.2) (x1 := CurD.mk xb0 t114.2.1 t114.2.2) (Rr := [SlRes 48 t21.1.Book.Rules y24.1.1 y24.1.2, SlRes 79 l25 y24.2.1.1 y24.2.1.2, SlRes 94 t21.1.Member.Spells y24.2.2.2.1.1 y24.2.2.2.1.2, SlRes 97 t21.1.Member.Events y24.2.2.2.2.1 y24.2.2.2.2.2, SlRes 48 s37.2.2.2.1 y38.1.1 y38.1.2, SlRes 79 s37.2.2.2.2.1 y38.2.1.1 y38.2.1.2, SlRes 75 s37.2.2.2.2.2.1 y38.2.2.1.1 y38.2.2.1.2, SlRes 94 s37.2.2.2.2.2.2.2.2.1 y38.2.2.2.1.1 y38.2.2.2.1.2, SlRes 97 s37.2.2.2.2.2.2.2.2.2.1 y38.2.2.2.2.1.1 y38.2.2.2.2.1.2, SlRes 3 s37.2.2.2.2.2.2.2.2.2.2.2 y38.2.2.2.2.2.1 y38.2.2.2.2.2.2]) rfl hs0 (fun w hs => (by have vv := c_spec_l01Below (p0 := p0) (W := w) h115 (hs0.kept hs.kept); exact vv)) (fun (y117 : Unit) => [(62, vi t114.1), (58, .v (vOffice (Office.mk (Case.mk (Book.mk s37.2.2.2.1) (Store.mk s37.2.2.2.2.1) (Series.mk s37.2.2.2.2.2.1) (Member.mk s37.2.2.2.2.2.2.1 s37.2.2.2.2.2.2.2.1 s37.2.2.2.2.2.2.2.2.1 s37.2.2.2.2.2.2.2.2.2.1)) s37.2.2.2.2.2.2.2.2.2.2.1 s37.2.2.2.2.2.2.2.2.2.2.2) y38)), (60, vi t110.1), (61, .q p0 0), (6, vi s37.1), (4, .p 2 0), (2, .p 0 0), (0, .q p0 0)]) (fun y117 => by kernel_rfl) (fun y117 => ?_)
               refine gn hm [62, 58, 60, 6, 4, 2, 0] [1, 1, 1, 1, 1, 1, 1, 1, 1, 1] ?_
               refine htq 5 (vi (w64 (9000 + t114.1))) [1, 1, 1, 1, 1, 1, 1, 1, 1, 1] ?_
               refine hk [63, 58, 60, 6, 4, 2, 0] ?_
               refine htq 6 (.v (vPoint (Point.mk t110.1 0 (w64 (9000 + t114.1))))) [1, 1, 1, 1, 1, 1, 1, 1, 1, 1] ?_
               refine hk [64, 58, 6, 4, 2, 0] ?_
               refine ha1 7 ?_
               refine hi (fun γ0 δ hm => ?_)
               refine g1 (fun w hs => c_spec_LearnPoint (b0 := y38) h119 (hs.view 5 rfl) (hs.view 6 rfl) (hs.view 7 rfl) (hs.view 8 rfl) (hs.view 9 rfl) (hs.view 10 rfl)) (fun y121 => ?_)
               refine gn hm [65, 6, 4, 2, 0] [7, 7, 7, 7, 7, 7, 7, 7, 7, 7] ?_
               refine htq 8 (.v (.tuple #[vOffice t118.1 y121, .bool t118.2])) [7, 7, 7, 7, 7, 7, 7, 7, 7, 7] ?_
               refine hk [57, 6, 4, 2, 0] ?_
               refine htq 9 (.v (vOffice t118.1 y121)) [7, 7, 7, 7, 7, 7, 7, 7, 7, 7] ?_
               refine htq 10 (vb t118.2) [7, 7, 7, 7, 7, 7, 7, 7, 7, 7] ?_
               refine hk [66, 6, 4, 2, 0] ?_
               refine ha1 11 ?_
               refine hi (fun γ0 δ hm => ?_)
               refine gs [(66, .v (vOffice t118.1 y121)), (6, vi s37.1), (4, .p 2 0), (2, .p 0 0), (0, .q p0 0)] [(56, [.slice none 0 0, .slice none 0 0, .slice none 0 0, .int .i64 0, .int .i64 0, .slice none 0 0, .slice none 0 0, .int .i64 0, .slice none 0 0]), (38, (eCase (Case.mk t21.1.Book (Store.mk l25) (Series.mk ([] : List Point)) t21.1.Member) (y24.1, y24.2.1, (none, 0), y24.2.2.2.1, y24.2.2.2.2))), (56, (eOffice t118.1 y121))] (fun δ2 => ?_)
               refine gd hm [6, 4, 2, 0] [7, 7, 7, 7, 7, 7, 7, 7, 7, 7] ?_
               exact hd y121 [6, 4, 2, 0] [0, 0, 0, 0, 0, 0, 0, 0, 0, 0, 0, 0, 0, 0, 0, 0, 0] 3
             · refine hi (fun γ0 δ hm => ?_)
               refine JG_callC (by kernel_rfl) (f := 23) (args := #[(SV.q p0 0).den [], .int .i64 4000]) (by kernel_rfl) (x0 := CurD.mk xb0 t110.2.1 t110.2.2) (x1 := CurD.mk xb0 t114.2.1 t114.2.2) (Rr := [SlRes 48 t21.1.Book.Rules y24.1.1 y24.1.2, SlRes 79 l25 y24.2.1.1 y24.2.1.2, SlRes 94 t21.1.Member.Spells y24.2.2.2.1.1 y24.2.2.2.1.2, SlRes 97 t21.1.Member.Events y24.2.2.2.2.1 y24.2.2.2.2.2, SlRes 48 s37.2.2.2.1 y38.1.1 y38.1.2, SlRes 79 s37.2.2.2.2.1 y38.2.1.1 y38.2.1.2, SlRes 75 s37.2.2.2.2.2.1 y38.2.2.1.1 y38.2.2.1.2, SlRes 94 s37.2.2.2.2.2.2.2.2.1 y38.2.2.2.1.1 y38.2.2.2.1.2, SlRes 97 s37.2.2.2.2.2.2.2.2.2.1 y38.2.2.2.2.1.1 y38.2.2.2.2.1.2, SlRes 3 s37.2.2.2.2.2.2.2.2.2.2.2 y38.2.2.2.2.2.1 y38.2.2.2.2.2.2]) rfl hs0 (fun w hs => (by have vv := c_spec_l01Below (p0 := p0) (W := w) h115 (hs0.kept hs.kept); exact vv)) (fun (y117 : Unit) => [(62, vi t114.1), (60, vi t110.1), (61, .q p0 0), (6, vi s37.1), (4, .p 2 0), (2, .p 0 0), (0, .q p0 0)]) (fun y117 => by kernel_rfl) (fun y117 => ?_)
               refine gn hm [62, 60, 6, 4, 2, 0] [1, 1, 1, 1, 1, 1, 1, 1, 1, 1] ?_
               refine htq 5 (vi (w64 (9000 + t114.1))) [1, 1, 1, 1, 1, 1, 1, 1, 1, 1] ?_
               refine hk [63, 60, 6, 4, 2, 0] ?_
               refine htq 6 (.v (vPoint (Point.mk t110.1 0 (w64 (9000 + t114.1))))) [1, 1, 1, 1, 1, 1, 1, 1, 1, 1] ?_
               refine hk [64, 6, 4, 2, 0] ?_
               refine ha1 0 ?_
               refine hi (fun γ0 δ hm => ?_)
               refine gs [(58, .v (vOffice (Office.mk (Case.mk (Book.mk s37.2.2.2.1) (Store.mk s37.2.2.2.2.1) (Series.mk s37.2.2.2.2.2.1) (Member.mk s37.2.2.2.2.2.2.1 s37.2.2.2.2.2.2.2.1 s37.2.2.2.2.2.2.2.2.1 s37.2.2.2.2.2.2.2.2.2.1)) s37.2.2.2.2.2.2.2.2.2.2.1 s37.2.2.2.2.2.2.2.2.2.2.2) y38)), (64, .v (vPoint (Point.mk t110.1 0 (w64 (9000 + t114.1))))), (6, vi s37.1), (4, .p 2 0), (2, .p 0 0), (0, .q p0 0)] [(56, [.slice none 0 0, .slice none 0 0, .slice none 0 0, .int .i64 0, .int .i64 0, .slice none 0 0, .slice none 0 0, .int .i64 0, .slice none 0 0]), (38, (eCase (Case.mk t21.1.Book (Store.mk l25) (Series.mk ([] : List Point)) t21.1.Member) (y24.1, y24.2.1, (none, 0), y24.2.2.2.1, y24.2.2.2.2))), (56, (eOffice (Office.mk (Case.mk (Book.mk s37.2.2.2.1) (Store.mk s37.2.2.2.2.1) (Series.mk s37.2.2.2.2.2.1) (Member.mk s37.2.2.2.2.2.2.1 s37.2.2.2.2.2.2.2.1 s37.2.2.2.2.2.2.2.2.1 s37.2.2.2.2.2.2.2.2.2.1)) s37.2.2.2.2.2.2.2.2.2.2.1 s37.2.2.2.2.2.2.2.2.2.2.2) y38))] (fun δ2 => ?_)
               refine gd hm [58, 64, 6, 4, 2, 0] [1, 1, 1, 1, 1, 1, 1, 1, 1, 1] ?_
               refine ha1 7 ?_
               refine hi (fun γ0 δ hm => ?_)
               refine g1 (fun w hs => c_spec_LearnPoint (b0 := y38) h119 (hs.view 5 rfl) (hs.view 6 rfl) (hs.view 7 rfl) (hs.view 8 rfl) (hs.view 9 rfl) (hs.view 10 rfl)) (fun y121 => ?_)
               refine gn hm [65, 6, 4, 2, 0] [7, 7, 7, 7, 7, 7, 7, 7, 7, 7] ?_
               refine htq 8 (.v (.tuple #[vOffice t118.1 y121, .bool t118.2])) [7, 7, 7, 7, 7, 7, 7, 7, 7, 7] ?_
               refine hk [57, 6, 4, 2, 0] ?_
               refine htq 9 (.v (vOffice t118.1 y121)) [7, 7, 7, 7, 7, 7, 7, 7, 7, 7] ?_
               refine htq 10 (vb t118.2) [7, 7, 7, 7, 7, 7, 7, 7, 7, 7] ?_
               refine hk [66, 6, 4, 2, 0] ?_
               refine ha1 11 ?_
               refine hi (fun γ0 δ hm => ?_)
               refine gs [(66, .v (vOffice t118.1 y121)), (6, vi s37.1), (4, .p 2 0), (2, .p 0 0), (0, .q p0 0)] [(56, [.slice none 0 0, .slice none 0 0, .slice none 0 0, .int .i64 0, .int .i64 0, .slice none 0 0, .slice none 0 0, .int .i64 0, .slice none 0 0]), (38, (eCase (Case.mk t21.1.Book (Store.mk l25) (Series.mk ([] : List Point)) t21.1.Member) (y24.1, y24.2.1, (none, 0), y24.2.2.2.1, y24.2.2.2.2))), (56, (eOffice t118.1 y121))] (fun δ2 => ?_)
               refine gd hm [6, 4, 2, 0] [7, 7, 7, 7, 7, 7, 7, 7, 7, 7] ?_
               exact hd y121 [6, 4, 2, 0] [0, 0, 0, 0, 0, 0, 0, 0, 0, 0, 0, 0, 0, 0, 0, 0, 0] 3
         exact mp ((t114.2.1, t114.2.2, t118.1.Case.Book.Rules, t118.1.Case.Store.Facts, t118.1.Case.Series.Points, t118.1.Case.Member.Birth, t118.1.Case.Member.Joined, t118.1.Case.Member.Spells, t118.1.Case.Member.Events, t118.1.Start, t118.1.Paid), ((y122.1.1, y122.1.2), (y122.2.1.1, y122.2.1.2), (y122.2.2.1.1, y122.2.2.1.2), (y122.2.2.2.1.1, y122.2.2.2.1.2), (y122.2.2.2.2.1.1, y122.2.2.2.2.1.2), (y122.2.2.2.2.2.1, y122.2.2.2.2.2.2))) h120 [6, 4, 2, 0] [7, 7, 7, 7, 0, 0, 0, 0, 0, 0, 0] 3
       refine qr (oN 1 [(35, .v (vOffice (Office.mk (Case.mk (Book.mk s37.2.2.2.1) (Store.mk s37.2.2.2.2.1) (Series.mk s37.2.2.2.2.2.1) (Member.mk s37.2.2.2.2.2.2.1 s37.2.2.2.2.2.2.2.1 s37.2.2.2.2.2.2.2.2.1 s37.2.2.2.2.2.2.2.2.2.1)) s37.2.2.2.2.2.2.2.2.2.2.1 s37.2.2.2.2.2.2.2.2.2.2.2) y38))] [6, 4, 2, 0] ?_)
       obtain ⟨t123, h124, h125⟩ := bS h109
       refine k1 (fun γ w hs => c_spec_PayMonth (b0 := y38) h124 (hs.view 5 rfl) (hs.view 6 rfl) (hs.view 7 rfl) (hs.view 8 rfl) (hs.view 9 rfl) (hs.view 10 rfl)) (fun y126 => ?_)
       refine oB 5 [] [6, 4, 2, 0] [(56, [.slice none 0 0, .slice none 0 0, .slice none 0 0, .int .i64 0, .int .i64 0, .slice none 0 0, .slice none 0 0, .int .i64 0, .slice none 0 0]), (38, (eCase (Case.mk t21.1.Book (Store.mk l25) (Series.mk ([] : List Point)) t21.1.Member) (y24.1, y24.2.1, (none, 0), y24.2.2.2.1, y24.2.2.2.2))), (56, (eOffice t123.1 y126))] ?_
       exact oe (mp ((t57.2.1, t57.2.2, t123.1.Case.Book.Rules, t123.1.Case.Store.Facts, t123.1.Case.Series.Points, t123.1.Case.Member.Birth, t123.1.Case.Member.Joined, t123.1.Case.Member.Spells, t123.1.Case.Member.Events, t123.1.Start, t123.1.Paid), ((y126.1.1, y126.1.2), (y126.2.1.1, y126.2.1.2), (y126.2.2.1.1, y126.2.2.1.2), (y126.2.2.2.1.1, y126.2.2.2.1.2), (y126.2.2.2.2.1.1, y126.2.2.2.2.1.2), (y126.2.2.2.2.2.1, y126.2.2.2.2.2.2))) h125 [6, 4, 2, 0] [7, 7, 7, 7, 0, 0, 0, 0, 0, 0, 0] 3)
     have h94 := (congrFun hk93 _).symm.trans h94p
     refine bn (bn (nt (qr (oN 3 [(6, vi (w64 (s37.1 + 1)))] [4, 2, 0] ?_))))
     exact oe (ct h94 ((y91.2.1.1, y91.2.1.2), (y91.2.2.1.1, y91.2.2.1.2), (y91.2.2.2.1.1, y91.2.2.2.1.2), (y91.2.2.2.2.1.1, y91.2.2.2.2.1.2), (y91.2.2.2.2.2.1.1, y91.2.2.2.2.2.1.2), (y91.2.2.2.2.2.2.1, y91.2.2.2.2.2.2.2)) [6, 4, 2, 0] [0, 0, 0, 0, 0, 0, 0, 0, 0, 0, 0] 3)
   refine qx (nx (nx (bh ?_)))
   have h127 := leafB hd46 h56 h42
   exact mp ((t50.2.1, t50.2.2, 0, 0, 0, t21.1.Member.Birth, t21.1.Member.Joined, s37.2.2.2.1, s37.2.2.2.2.1, s37.2.2.2.2.2.1, s37.2.2.2.2.2.2.1, s37.2.2.2.2.2.2.2.1, s37.2.2.2.2.2.2.2.2.1, s37.2.2.2.2.2.2.2.2.2.1, s37.2.2.2.2.2.2.2.2.2.2.1, s37.2.2.2.2.2.2.2.2.2.2.2), ((y38.1.1, y38.1.2), (y38.2.1.1, y38.2.1.2), (y38.2.2.1.1, y38.2.2.1.2), (y38.2.2.2.1.1, y38.2.2.2.1.2), (y38.2.2.2.2.1.1, y38.2.2.2.2.1.2), (y38.2.2.2.2.2.1, y38.2.2.2.2.2.2))) h127 [4, 2, 0] [1, 1, 1, 1, 1, 1, 1, 1, 1, 1, 0] 3
 have h49 := (congrFun hk44 _).symm.trans h49p
 refine nt (qs (qr (oB 2 [] [2, 0] [(56, (eOffice (Office.mk (Case.mk (Book.mk y48.1.2.2.2.2.2.2.2.1) (Store.mk y48.1.2.2.2.2.2.2.2.2.1) (Series.mk y48.1.2.2.2.2.2.2.2.2.2.1) (Member.mk y48.1.2.2.2.2.2.2.2.2.2.2.1 y48.1.2.2.2.2.2.2.2.2.2.2.2.1 y48.1.2.2.2.2.2.2.2.2.2.2.2.2.1 y48.1.2.2.2.2.2.2.2.2.2.2.2.2.2.1)) y48.1.2.2.2.2.2.2.2.2.2.2.2.2.2.2.1 y48.1.2.2.2.2.2.2.2.2.2.2.2.2.2.2.2) y48.2)), (38, (eCase (Case.mk t21.1.Book (Store.mk l25) (Series.mk ([] : List Point)) (Member.mk y48.1.2.2.2.2.2.1 y48.1.2.2.2.2.2.2.1 t21.1.Member.Spells t21.1.Member.Events)) (y24.1, y24.2.1, (none, 0), y24.2.2.2.1, y24.2.2.2.2))), (56, (eOffice (Office.mk (Case.mk (Book.mk y48.1.2.2.2.2.2.2.2.1) (Store.mk y48.1.2.2.2.2.2.2.2.2.1) (Series.mk y48.1.2.2.2.2.2.2.2.2.2.1) (Member.mk y48.1.2.2.2.2.2.2.2.2.2.2.1 y48.1.2.2.2.2.2.2.2.2.2.2.2.1 y48.1.2.2.2.2.2.2.2.2.2.2.2.2.1 y48.1.2.2.2.2.2.2.2.2.2.2.2.2.2.1)) y48.1.2.2.2.2.2.2.2.2.2.2.2.2.2.2.1 y48.1.2.2.2.2.2.2.2.2.2.2.2.2.2.2.2) y48.2))] ?_)))
 refine oe (nt (qe (rt [vOffice (Office.mk (Case.mk (Book.mk y48.1.2.2.2.2.2.2.2.1) (Store.mk y48.1.2.2.2.2.2.2.2.2.1) (Series.mk y48.1.2.2.2.2.2.2.2.2.2.1) (Member.mk y48.1.2.2.2.2.2.2.2.2.2.2.1 y48.1.2.2.2.2.2.2.2.2.2.2.2.1 y48.1.2.2.2.2.2.2.2.2.2.2.2.2.1 y48.1.2.2.2.2.2.2.2.2.2.2.2.2.2.1)) y48.1.2.2.2.2.2.2.2.2.2.2.2.2.2.2.1 y48.1.2.2.2.2.2.2.2.2.2.2.2.2.2.2.2) y48.2] (fun γ w hs => ?_))))
 rw [← sI h49]
 exact hs.curPost hg (y48.2.1, y48.2.2.1, y48.2.2.2.1, y48.2.2.2.2.1, y48.2.2.2.2.2.1, y48.2.2.2.2.2.2) (is := [10, 4, 4, 4, 4, 4, 4]) rfl

theorem c_spec_DrawOffice {W : World} {x0 : List U8} {a0_0 : Option Addr} {c0_0 : Nat} {r : Office} (h : spec_DrawOffice x0 = some r) (hv0_0 : SlView W x0 a0_0 c0_0) :
    Gives Try.prog 18 #[.slice a0_0 x0.length c0_0] W (fun y : AC × AC × AC × AC × AC × AC => vOffice r y) (fun y => [SlRes 48 r.Case.Book.Rules y.1.1 y.1.2, SlRes 79 r.Case.Store.Facts y.2.1.1 y.2.1.2, SlRes 75 r.Case.Series.Points y.2.2.1.1 y.2.2.1.2, SlRes 94 r.Case.Member.Spells y.2.2.2.1.1 y.2.2.2.1.2, SlRes 97 r.Case.Member.Events y.2.2.2.2.1.1 y.2.2.2.2.1.2, SlRes 3 r.Paid y.2.2.2.2.2.1 y.2.2.2.2.2.2]) := by
 unfold spec_DrawOffice at h
 refine en Try.func18 Try.ntmps18 ?_
 refine qs (qr (oB 1 [(2, .p 0 0)] [0] [(56, [.slice none 0 0, .slice none 0 0, .slice none 0 0, .int .i64 0, .int .i64 0, .slice none 0 0, .slice none 0 0, .int .i64 0, .slice none 0 0])] ?_))
 refine oe (nt (qs (qr (oN 1 [(3, .v (.slice a0_0 x0.length c0_0))] [2] ?_))))
 obtain ⟨t21, h22, h23⟩ := bS h
 refine JO_callN rfl (by kernel_rfl) (f := 22) (args := #[.slice a0_0 x0.length c0_0]) (by kernel_rfl) (fun γ w hs => (by have vv := c_spec_l01New (W := w) h22 (hv0_0.kept hs.kept); exact vv)) (fun y24 => [(4, .q y24.1 0), (3, .v (.slice a0_0 x0.length c0_0)), (2, .p 0 0)]) (fun y24 => by kernel_rfl) (fun y24 => ?_)
 obtain ⟨t25, h26, h27⟩ := bS h23
 refine JO_callC rfl (by kernel_rfl) (f := 38) (args := fun γ => #[(SV.q y24.1 0).den []]) (fun γ => by kernel_rfl) (x0 := CurD.mk x0 t21.1 t21.2) (x1 := CurD.mk x0 t25.2.1 t25.2.2) (Rr := []) rfl (Seen.of hv0_0) (fun γ w hs => (by have vv := c_spec_l37Case (p0 := y24.1) (W := w) h26 (hv0_0.kept hs.kept); exact vv)) (fun (y28 : AC × AC × AC × AC × AC × AC) => [(5, .v (vOffice t25.1 y28)), (4, .q y24.1 0), (3, .v (.slice a0_0 x0.length c0_0)), (2, .p 0 0)]) (fun y28 => by kernel_rfl) (fun y28 => ?_)
 refine oB 1 [] [2] [(56, (eOffice t25.1 y28))] ?_
 refine oe (nt (qe (rt [vOffice t25.1 y28] (fun γ w hs => ?_))))
 rw [← sI h27]
 exact ⟨(y28.1, y28.2.1, y28.2.2.1, y28.2.2.2.1, y28.2.2.2.2.1, y28.2.2.2.2.2), rfl, hs.kept.toBelow, (hs.takeR (is := [0, 0, 0, 0, 0, 0]) rfl).fresh⟩

theorem c_slices_Equal_Node {W : World} {x0 : List Node} {a0_0 : Option Addr} {c0_0 : Nat} {x1 : List Node} {a1_0 : Option Addr} {c1_0 : Nat} {r : Bool} (h : slices_Equal_Node x0 x1 = some r) (hv0_0 : SlView W x0 a0_0 c0_0) (hv1_0 : SlView W x1 a1_0 c1_0) :
    Gives0 Try.prog 43 #[.slice a0_0 x0.length c0_0, .slice a1_0 x1.length c1_0] W (.bool r) := by
 unfold slices_Equal_Node at h
 refine en Try.func43 Try.ntmps43 ?_
 refine qs (qr (oN 1 [] [0, 1] ?_))
 refine oe (nt (qs (qs (qr (oN 5 [(10, vb ((x0.length : Int) != (x1.length : Int)))] [0, 1] ?_)))))
 refine oe (nt (cC h (fun h22 => ?_) (fun h23 => ?_)))
 · refine qs (qr (oN 1 [(4, vb false)] [] ?_))
   refine oe (nt (qe (nr ?_)))
   obtain rfl := sI h22
   exact re [.bool false]
 refine qk (nt (qs (qs (qr (oN 3 [(13, vi 0), (12, vi (x0.length : Int))] [0, 1] ?_)))))
 refine oe (nt ?_)
 obtain ⟨r27, hL28, h29⟩ := bS h23
 obtain ⟨k30, hk31, h29⟩ := brkS h29
 refine JC_cutP (τ := (Unit) × (Unit)) (fun y => k30 y.1 = some r) (fun y35 => []) (fun y35 => []) (fun y35 => []) ?_ (fun y35 h36p => ?_)
 · refine qb (lp Unit hL28 (fun s24 y25 => [(13, vi s24), (12, vi (x0.length : Int)), (0, .v (.slice a0_0 x0.length c0_0)), (1, .v (.slice a1_0 x1.length c1_0))]) (fun s24 y25 => []) (fun s24 y25 => []) () [13, 12, 0, 1] [] 0 (fun s24 y25 t26 h32 hd33 => ?_))
   refine qs (qr (oN 1 [(14, vb (decide (s24 < (x0.length : Int))))] [13, 12, 0, 1] ?_))
   refine oe (nt (qs (cC h32 (fun h38 => ?_) (fun h39 => ?_))))
   · refine qk (nt (qs (qb (qs (qr (oN 2 [(5, vi s24)] [13, 12, 0, 1] ?_))))))
     refine oe (nt (qs (JC_quiet (by kernel_rfl) (by kernel_rfl) ?_)))
     refine qN 2 [(17, vi s24), (16, .v (.slice a0_0 x0.length c0_0))] [5, 13, 12, 0, 1] ?_
     obtain ⟨x40, hx41, h42⟩ := bS h38
     refine qi 6 (fun γ w hs => (hv0_0.kept hs.kept)) hx41 ?_
     refine ql 68 0 (vNode x40) (fun γ w hs => (hv0_0.kept hs.kept).flatq hx41) ?_
     refine qN 2 [(21, vi s24), (20, .v (.slice a1_0 x1.length c1_0))] [19, 13, 12, 0, 1] ?_
     obtain ⟨x43, hx44, h45⟩ := bS h42
     refine qi 6 (fun γ w hs => (hv1_0.kept hs.kept)) hx44 ?_
     refine ql 68 0 (vNode x43) (fun γ w hs => (hv1_0.kept hs.kept).flatq hx44) ?_
     refine qN 1 [(24, vb (!((x40.Kind == x43.Kind) && ((x40.A == x43.A) && ((x40.B == x43.B) && ((x40.C == x43.C) && (((x40.Value.Num == x43.Value.Num) && ((x40.Value.Den == x43.Value.Den) && true)) && true)))))))] [13, 12, 0, 1] ?_
     refine qz (nt (cC h45 (fun h47 => ?_) (fun h48 => ?_)))
     · refine qs (qr (oN 1 [(4, vb false)] [] ?_))
       refine oe (nt (qe (br (nr (nr ?_)))))
       have h49 := leafR hd33 h47 h29
       refine br (nr (nr ?_))
       obtain rfl := sI h49
       exact re [.bool false]
     refine qk (bn (nt (qr (oN 2 [(13, vi (w64 (s24 + 1)))] [12, 0, 1] ?_))))
     exact oe (ct h48 () [13, 12, 0, 1] [] 0)
   refine qx (nx (nx (bh ?_)))
   have h50 := leafB hd33 h39 h29
   exact mp ((), ()) h50 [] [] 0
 have h36 := (congrFun hk31 _).symm.trans h36p
 refine nt (qs (qr (oN 1 [(4, vb true)] [] ?_)))
 refine oe (nt (qe ?_))
 obtain rfl := sI h36
 exact re [.bool true]

theorem c_impl_SameOffice_1 {W : World} {x0 : Rule} {a0_0 : Option Addr} {c0_0 : Nat} {x1 : Rule} {a1_0 : Option Addr} {c1_0 : Nat} {r : Bool} (h : impl_SameOffice_1 x0 x1 = some r) (hv0_0 : SlView W x0.Nodes a0_0 c0_0) (hv1_0 : SlView W x1.Nodes a1_0 c1_0) :
    Gives0 Try.prog 42 #[vRule x0 (a0_0, c0_0), vRule x1 (a1_0, c1_0)] W (.bool r) := by
 unfold impl_SameOffice_1 at h
 refine en Try.func42 Try.ntmps42 ?_
 refine qs (qr (oB 3 [(3, .p 1 0), (2, .p 0 0)] [] [(48, (eRule x0 (a0_0, c0_0))), (48, (eRule x1 (a1_0, c1_0)))] ?_))
 refine oe (nt (qs ?_))
 obtain ⟨p21, hE22, h23⟩ := bS h
 refine JC_cut (τ := Unit) (fun _ => [(4, vb p21)]) (fun _ => [(48, (eRule x0 (a0_0, c0_0))), (48, (eRule x1 (a1_0, c1_0)))]) (fun _ => []) ?_ (fun _ => ?_)
 · refine qr (oN 6 [(10, vb (x0.Name == x1.Name))] [3, 2] ?_)
   refine oS 10 hE22 (fun h25 => ?_) (fun h26 => ?_)
   · refine oN 7 [(17, vb (x0.From == x1.From))] [3, 2] ?_
     refine oS 17 h25 (fun h28 => ?_) (fun h29 => ?_)
     · refine oN 7 [(24, vb (x0.To == x1.To))] [3, 2] ?_
       refine oS 24 h28 (fun h31 => ?_) (fun h32 => ?_)
       · refine oN 7 [(31, vb (x0.Joined == x1.Joined))] [3, 2] ?_
         refine oS 31 h31 (fun h34 => ?_) (fun h35 => ?_)
         · refine oN 7 [(38, vb (x0.Rank == x1.Rank))] [3, 2] ?_
           refine oS 38 h34 (fun h37 => ?_) (fun h38 => ?_)
           · refine oN 7 [(45, vb (x0.Mode == x1.Mode))] [3, 2] ?_
             refine oS 45 h37 (fun h40 => ?_) (fun h41 => ?_)
             · refine oN 4 [(49, .v (.slice a1_0 x1.Nodes.length c1_0)), (47, .v (.slice a0_0 x0.Nodes.length c0_0))] [45] ?_
               obtain ⟨t42, h43, h44⟩ := bS h40
               refine k0 (fun γ w hs => c_slices_Equal_Node h43 (hv0_0.kept hs.kept) (hv1_0.kept hs.kept)) ?_
               refine oN 2 [(4, vb t42)] [] ?_
               refine oe ?_
               obtain rfl := sI h44
               exact mt () [4] [] 2
             refine oN 7 [(4, vb false)] [] ?_
             refine oe ?_
             obtain rfl := sI h41
             exact mt () [4] [] 2
           refine oN 14 [(4, vb false)] [] ?_
           refine oe ?_
           obtain rfl := sI h38
           exact mt () [4] [] 2
         refine oN 21 [(4, vb false)] [] ?_
         refine oe ?_
         obtain rfl := sI h35
         exact mt () [4] [] 2
       refine oN 28 [(4, vb false)] [] ?_
       refine oe ?_
       obtain rfl := sI h32
       exact mt () [4] [] 2
     refine oN 35 [(4, vb false)] [] ?_
     refine oe ?_
     obtain rfl := sI h29
     exact mt () [4] [] 2
   refine oN 42 [(4, vb false)] [] ?_
   refine oe ?_
   obtain rfl := sI h26
   exact mt () [4] [] 2
 refine nt (qe ?_)
 obtain rfl := sI h23
 exact re [.bool p21]

theorem c_slices_EqualFunc_Rule__impl_SameOffice_1 {W : World} {x0 : List Rule} {a0_0 : Option Addr} {c0_0 : Nat} {x1 : List Rule} {a1_0 : Option Addr} {c1_0 : Nat} {r : Bool} (h : slices_EqualFunc_Rule__impl_SameOffice_1 x0 x1 = some r) (hv0_0 : SlView W x0 a0_0 c0_0) (hv1_0 : SlView W x1 a1_0 c1_0) :
    Gives0 Try.prog 44 #[.slice a0_0 x0.length c0_0, .slice a1_0 x1.length c1_0, .func (.func 42) #[] #[]] W (.bool r) := by
 unfold slices_EqualFunc_Rule__impl_SameOffice_1 at h
 refine en Try.func44 Try.ntmps44 ?_
 refine qs (qr (oN 1 [] [0, 1, 2] ?_))
 refine oe (nt (qs (qs (qr (oN 5 [(14, vb ((x0.length : Int) != (x1.length : Int)))] [0, 1, 2] ?_)))))
 refine oe (nt (cC h (fun h22 => ?_) (fun h23 => ?_)))
 · refine qs (qr (oN 1 [(6, vb false)] [] ?_))
   refine oe (nt (qe (nr ?_)))
   obtain rfl := sI h22
   exact re [.bool false]
 refine qk (nt (qs (qs (qr (oN 3 [(17, vi 0), (16, vi (x0.length : Int)), (15, .v (.slice a0_0 x0.length c0_0))] [1, 2] ?_)))))
 refine oe (nt ?_)
 obtain ⟨r27, hL28, h29⟩ := bS h23
 obtain ⟨k30, hk31, h29⟩ := brkS h29
 refine JC_cutP (τ := (Unit) × (Unit)) (fun y => k30 y.1 = some r) (fun y35 => []) (fun y35 => []) (fun y35 => []) ?_ (fun y35 h36p => ?_)
 · refine qb (lp Unit hL28 (fun s24 y25 => [(17, vi s24), (16, vi (x0.length : Int)), (15, .v (.slice a0_0 x0.length c0_0)), (1, .v (.slice a1_0 x1.length c1_0)), (2, .v (.func (.func 42) #[] #[]))]) (fun s24 y25 => []) (fun s24 y25 => []) () [17, 16, 15, 1, 2] [] 0 (fun s24 y25 t26 h32 hd33 => ?_))
   refine qs (qr (oN 1 [(18, vb (decide (s24 < (x0.length : Int))))] [17, 16, 15, 1, 2] ?_))
   refine oe (nt (qs (cC h32 (fun h38 => ?_) (fun h39 => ?_))))
   · refine qk (nt (qs (qb (qs (qr (oN 1 [(19, vi s24)] [17, 16, 15, 1, 2] ?_))))))
     obtain ⟨x40, hx41, h42⟩ := bS h38
     refine oi 7 (fun γ w hs => (hv0_0.kept hs.kept)) hx41 ?_
     obtain ⟨_, ⟨a43, c44, rfl, hv45⟩, hc46⟩ := SlView.at hv0_0 (idx_some hx41).2.2
     refine ol 48 0 (vRule x40 (a43, c44)) (fun γ w hs => ⟨(hv0_0.kept hs.kept).ne (idx_some hx41).2.2, hc46.kept hs.kept⟩) ?_
     refine oB 3 [(7, vi s24), (8, .p 0 0)] [17, 16, 15, 1, 2] [(48, (eRule x40 (a43, c44)))] ?_
     refine oe (nt (qs (qr (oN 2 [(23, vi s24), (22, .v (.slice a1_0 x1.length c1_0))] [8, 17, 16, 15, 1, 2] ?_))))
     obtain ⟨x47, hx48, h49⟩ := bS h42
     refine oi 7 (fun γ w hs => (hv1_0.kept hs.kept)) hx48 ?_
     obtain ⟨_, ⟨a50, c51, rfl, hv52⟩, hc53⟩ := SlView.at hv1_0 (idx_some hx48).2.2
     refine ol 48 0 (vRule x47 (a50, c51)) (fun γ w hs => ⟨(hv1_0.kept hs.kept).ne (idx_some hx48).2.2, hc53.kept hs.kept⟩) ?_
     refine oB 2 [(9, .p 1 0)] [8, 17, 16, 15, 1, 2] [(48, (eRule x40 (a43, c44))), (48, (eRule x47 (a50, c51)))] ?_
     refine oe (nt (qs (qr (oN 3 [(28, .v (vRule x47 (a50, c51))), (27, .v (vRule x40 (a43, c44))), (26, .v (.func (.func 42) #[] #[]))] [17, 16, 15, 1, 2] ?_))))
     obtain ⟨t54, h55, h56⟩ := bS h49
     refine k0 (fun γ w hs => c_impl_SameOffice_1 h55 (hv45.kept hs.kept) (hv52.kept hs.kept)) ?_
     refine oN 1 [(30, vb (!t54))] [17, 16, 15, 1, 2] ?_
     refine oe (nt (cC h56 (fun h59 => ?_) (fun h60 => ?_)))
     · refine qs (qr (oN 1 [(6, vb false)] [] ?_))
       refine oe (nt (qe (br (nr (nr ?_)))))
       have h61 := leafR hd33 h59 h29
       refine br (nr (nr ?_))
       obtain rfl := sI h61
       exact re [.bool false]
     refine qk (bn (nt (qr (oN 2 [(17, vi (w64 (s24 + 1)))] [16, 15, 1, 2] ?_))))
     exact oe (ct h60 () [17, 16, 15, 1, 2] [] 0)
   refine qx (nx (nx (bh ?_)))
   have h62 := leafB hd33 h39 h29
   exact mp ((), ()) h62 [] [] 0
 have h36 := (congrFun hk31 _).symm.trans h36p
 refine nt (qs (qr (oN 1 [(6, vb true)] [] ?_)))
 refine oe (nt (qe ?_))
 obtain rfl := sI h36
 exact re [.bool true]

theorem c_slices_Equal_Fact {W : World} {x0 : List Fact} {a0_0 : Option Addr} {c0_0 : Nat} {x1 : List Fact} {a1_0 : Option Addr} {c1_0 : Nat} {r : Bool} (h : slices_Equal_Fact x0 x1 = some r) (hv0_0 : SlView W x0 a0_0 c0_0) (hv1_0 : SlView W x1 a1_0 c1_0) :
    Gives0 Try.prog 45 #[.slice a0_0 x0.length c0_0, .slice a1_0 x1.length c1_0] W (.bool r) := by
 unfold slices_Equal_Fact at h
 refine en Try.func45 Try.ntmps45 ?_
 refine qs (qr (oN 1 [] [0, 1] ?_))
 refine oe (nt (qs (qs (qr (oN 5 [(10, vb ((x0.length : Int) != (x1.length : Int)))] [0, 1] ?_)))))
 refine oe (nt (cC h (fun h22 => ?_) (fun h23 => ?_)))
 · refine qs (qr (oN 1 [(4, vb false)] [] ?_))
   refine oe (nt (qe (nr ?_)))
   obtain rfl := sI h22
   exact re [.bool false]
 refine qk (nt (qs (qs (qr (oN 3 [(13, vi 0), (12, vi (x0.length : Int))] [0, 1] ?_)))))
 refine oe (nt ?_)
 obtain ⟨r27, hL28, h29⟩ := bS h23
 obtain ⟨k30, hk31, h29⟩ := brkS h29
 refine JC_cutP (τ := (Unit) × (Unit)) (fun y => k30 y.1 = some r) (fun y35 => []) (fun y35 => []) (fun y35 => []) ?_ (fun y35 h36p => ?_)
 · refine qb (lp Unit hL28 (fun s24 y25 => [(13, vi s24), (12, vi (x0.length : Int)), (0, .v (.slice a0_0 x0.length c0_0)), (1, .v (.slice a1_0 x1.length c1_0))]) (fun s24 y25 => []) (fun s24 y25 => []) () [13, 12, 0, 1] [] 0 (fun s24 y25 t26 h32 hd33 => ?_))
   refine qs (qr (oN 1 [(14, vb (decide (s24 < (x0.length : Int))))] [13, 12, 0, 1] ?_))
   refine oe (nt (qs (cC h32 (fun h38 => ?_) (fun h39 => ?_))))
   · refine qk (nt (qs (qb (qs (qr (oN 2 [(5, vi s24)] [13, 12, 0, 1] ?_))))))
     refine oe (nt (qs (JC_quiet (by kernel_rfl) (by kernel_rfl) ?_)))
     refine qN 2 [(17, vi s24), (16, .v (.slice a0_0 x0.length c0_0))] [5, 13, 12, 0, 1] ?_
     obtain ⟨x40, hx41, h42⟩ := bS h38
     refine qi 5 (fun γ w hs => (hv0_0.kept hs.kept)) hx41 ?_
     refine ql 79 0 (vFact x40) (fun γ w hs => (hv0_0.kept hs.kept).flatq hx41) ?_
     refine qN 2 [(21, vi s24), (20, .v (.slice a1_0 x1.length c1_0))] [19, 13, 12, 0, 1] ?_
     obtain ⟨x43, hx44, h45⟩ := bS h42
     refine qi 5 (fun γ w hs => (hv1_0.kept hs.kept)) hx44 ?_
     refine ql 79 0 (vFact x43) (fun γ w hs => (hv1_0.kept hs.kept).flatq hx44) ?_
     refine qN 1 [(24, vb (!((x40.Key == x43.Key) && ((x40.From == x43.From) && ((x40.To == x43.To) && ((x40.Known == x43.Known) && ((x40.Value == x43.Value) && true)))))))] [13, 12, 0, 1] ?_
     refine qz (nt (cC h45 (fun h47 => ?_) (fun h48 => ?_)))
     · refine qs (qr (oN 1 [(4, vb false)] [] ?_))
       refine oe (nt (qe (br (nr (nr ?_)))))
       have h49 := leafR hd33 h47 h29
       refine br (nr (nr ?_))
       obtain rfl := sI h49
       exact re [.bool false]
     refine qk (bn (nt (qr (oN 2 [(13, vi (w64 (s24 + 1)))] [12, 0, 1] ?_))))
     exact oe (ct h48 () [13, 12, 0, 1] [] 0)
   refine qx (nx (nx (bh ?_)))
   have h50 := leafB hd33 h39 h29
   exact mp ((), ()) h50 [] [] 0
 have h36 := (congrFun hk31 _).symm.trans h36p
 refine nt (qs (qr (oN 1 [(4, vb true)] [] ?_)))
 refine oe (nt (qe ?_))
 obtain rfl := sI h36
 exact re [.bool true]

theorem c_slices_Equal_Point {W : World} {x0 : List Point} {a0_0 : Option Addr} {c0_0 : Nat} {x1 : List Point} {a1_0 : Option Addr} {c1_0 : Nat} {r : Bool} (h : slices_Equal_Point x0 x1 = some r) (hv0_0 : SlView W x0 a0_0 c0_0) (hv1_0 : SlView W x1 a1_0 c1_0) :
    Gives0 Try.prog 46 #[.slice a0_0 x0.length c0_0, .slice a1_0 x1.length c1_0] W (.bool r) := by
 unfold slices_Equal_Point at h
 refine en Try.func46 Try.ntmps46 ?_
 refine qs (qr (oN 1 [] [0, 1] ?_))
 refine oe (nt (qs (qs (qr (oN 5 [(10, vb ((x0.length : Int) != (x1.length : Int)))] [0, 1] ?_)))))
 refine oe (nt (cC h (fun h22 => ?_) (fun h23 => ?_)))
 · refine qs (qr (oN 1 [(4, vb false)] [] ?_))
   refine oe (nt (qe (nr ?_)))
   obtain rfl := sI h22
   exact re [.bool false]
 refine qk (nt (qs (qs (qr (oN 3 [(13, vi 0), (12, vi (x0.length : Int))] [0, 1] ?_)))))
 refine oe (nt ?_)
 obtain ⟨r27, hL28, h29⟩ := bS h23
 obtain ⟨k30, hk31, h29⟩ := brkS h29
 refine JC_cutP (τ := (Unit) × (Unit)) (fun y => k30 y.1 = some r) (fun y35 => []) (fun y35 => []) (fun y35 => []) ?_ (fun y35 h36p => ?_)
 · refine qb (lp Unit hL28 (fun s24 y25 => [(13, vi s24), (12, vi (x0.length : Int)), (0, .v (.slice a0_0 x0.length c0_0)), (1, .v (.slice a1_0 x1.length c1_0))]) (fun s24 y25 => []) (fun s24 y25 => []) () [13, 12, 0, 1] [] 0 (fun s24 y25 t26 h32 hd33 => ?_))
   refine qs (qr (oN 1 [(14, vb (decide (s24 < (x0.length : Int))))] [13, 12, 0, 1] ?_))
   refine oe (nt (qs (cC h32 (fun h38 => ?_) (fun h39 => ?_))))
   · refine qk (nt (qs (qb (qs (qr (oN 2 [(5, vi s24)] [13, 12, 0, 1] ?_))))))
     refine oe (nt (qs (JC_quiet (by kernel_rfl) (by kernel_rfl) ?_)))
     refine qN 2 [(17, vi s24), (16, .v (.slice a0_0 x0.length c0_0))] [5, 13, 12, 0, 1] ?_
     obtain ⟨x40, hx41, h42⟩ := bS h38
     refine qi 3 (fun γ w hs => (hv0_0.kept hs.kept)) hx41 ?_
     refine ql 75 0 (vPoint x40) (fun γ w hs => (hv0_0.kept hs.kept).flatq hx41) ?_
     refine qN 2 [(21, vi s24), (20, .v (.slice a1_0 x1.length c1_0))] [19, 13, 12, 0, 1] ?_
     obtain ⟨x43, hx44, h45⟩ := bS h42
     refine qi 3 (fun γ w hs => (hv1_0.kept hs.kept)) hx44 ?_
     refine ql 75 0 (vPoint x43) (fun γ w hs => (hv1_0.kept hs.kept).flatq hx44) ?_
     refine qN 1 [(24, vb (!((x40.Month == x43.Month) && ((x40.Known == x43.Known) && ((x40.Value == x43.Value) && true)))))] [13, 12, 0, 1] ?_
     refine qz (nt (cC h45 (fun h47 => ?_) (fun h48 => ?_)))
     · refine qs (qr (oN 1 [(4, vb false)] [] ?_))
       refine oe (nt (qe (br (nr (nr ?_)))))
       have h49 := leafR hd33 h47 h29
       refine br (nr (nr ?_))
       obtain rfl := sI h49
       exact re [.bool false]
     refine qk (bn (nt (qr (oN 2 [(13, vi (w64 (s24 + 1)))] [12, 0, 1] ?_))))
     exact oe (ct h48 () [13, 12, 0, 1] [] 0)
   refine qx (nx (nx (bh ?_)))
   have h50 := leafB hd33 h39 h29
   exact mp ((), ()) h50 [] [] 0
 have h36 := (congrFun hk31 _).symm.trans h36p
 refine nt (qs (qr (oN 1 [(4, vb true)] [] ?_)))
 refine oe (nt (qe ?_))
 obtain rfl := sI h36
 exact re [.bool true]

theorem c_slices_Equal_Spell {W : World} {x0 : List Spell} {a0_0 : Option Addr} {c0_0 : Nat} {x1 : List Spell} {a1_0 : Option Addr} {c1_0 : Nat} {r : Bool} (h : slices_Equal_Spell x0 x1 = some r) (hv0_0 : SlView W x0 a0_0 c0_0) (hv1_0 : SlView W x1 a1_0 c1_0) :
    Gives0 Try.prog 47 #[.slice a0_0 x0.length c0_0, .slice a1_0 x1.length c1_0] W (.bool r) := by
 unfold slices_Equal_Spell at h
 refine en Try.func47 Try.ntmps47 ?_
 refine qs (qr (oN 1 [] [0, 1] ?_))
 refine oe (nt (qs (qs (qr (oN 5 [(10, vb ((x0.length : Int) != (x1.length : Int)))] [0, 1] ?_)))))
 refine oe (nt (cC h (fun h22 => ?_) (fun h23 => ?_)))
 · refine qs (qr (oN 1 [(4, vb false)] [] ?_))
   refine oe (nt (qe (nr ?_)))
   obtain rfl := sI h22
   exact re [.bool false]
 refine qk (nt (qs (qs (qr (oN 3 [(13, vi 0), (12, vi (x0.length : Int))] [0, 1] ?_)))))
 refine oe (nt ?_)
 obtain ⟨r27, hL28, h29⟩ := bS h23
 obtain ⟨k30, hk31, h29⟩ := brkS h29
 refine JC_cutP (τ := (Unit) × (Unit)) (fun y => k30 y.1 = some r) (fun y35 => []) (fun y35 => []) (fun y35 => []) ?_ (fun y35 h36p => ?_)
 · refine qb (lp Unit hL28 (fun s24 y25 => [(13, vi s24), (12, vi (x0.length : Int)), (0, .v (.slice a0_0 x0.length c0_0)), (1, .v (.slice a1_0 x1.length c1_0))]) (fun s24 y25 => []) (fun s24 y25 => []) () [13, 12, 0, 1] [] 0 (fun s24 y25 t26 h32 hd33 => ?_))
   refine qs (qr (oN 1 [(14, vb (decide (s24 < (x0.length : Int))))] [13, 12, 0, 1] ?_))
   refine oe (nt (qs (cC h32 (fun h38 => ?_) (fun h39 => ?_))))
   · refine qk (nt (qs (qb (qs (qr (oN 2 [(5, vi s24)] [13, 12, 0, 1] ?_))))))
     refine oe (nt (qs (JC_quiet (by kernel_rfl) (by kernel_rfl) ?_)))
     refine qN 2 [(17, vi s24), (16, .v (.slice a0_0 x0.length c0_0))] [5, 13, 12, 0, 1] ?_
     obtain ⟨x40, hx41, h42⟩ := bS h38
     refine qi 4 (fun γ w hs => (hv0_0.kept hs.kept)) hx41 ?_
     refine ql 94 0 (vSpell x40) (fun γ w hs => (hv0_0.kept hs.kept).flatq hx41) ?_
     refine qN 2 [(21, vi s24), (20, .v (.slice a1_0 x1.length c1_0))] [19, 13, 12, 0, 1] ?_
     obtain ⟨x43, hx44, h45⟩ := bS h42
     refine qi 4 (fun γ w hs => (hv1_0.kept hs.kept)) hx44 ?_
     refine ql 94 0 (vSpell x43) (fun γ w hs => (hv1_0.kept hs.kept).flatq hx44) ?_
     refine qN 1 [(24, vb (!((x40.From == x43.From) && ((x40.To == x43.To) && ((x40.Percent == x43.Percent) && ((x40.Leave == x43.Leave) && true))))))] [13, 12, 0, 1] ?_
     refine qz (nt (cC h45 (fun h47 => ?_) (fun h48 => ?_)))
     · refine qs (qr (oN 1 [(4, vb false)] [] ?_))
       refine oe (nt (qe (br (nr (nr ?_)))))
       have h49 := leafR hd33 h47 h29
       refine br (nr (nr ?_))
       obtain rfl := sI h49
       exact re [.bool false]
     refine qk (bn (nt (qr (oN 2 [(13, vi (w64 (s24 + 1)))] [12, 0, 1] ?_))))
     exact oe (ct h48 () [13, 12, 0, 1] [] 0)
   refine qx (nx (nx (bh ?_)))
   have h50 := leafB hd33 h39 h29
   exact mp ((), ()) h50 [] [] 0
 have h36 := (congrFun hk31 _).symm.trans h36p
 refine nt (qs (qr (oN 1 [(4, vb true)] [] ?_)))
 refine oe (nt (qe ?_))
 obtain rfl := sI h36
 exact re [.bool true]

theorem c_slices_Equal_Event {W : World} {x0 : List Event} {a0_0 : Option Addr} {c0_0 : Nat} {x1 : List Event} {a1_0 : Option Addr} {c1_0 : Nat} {r : Bool} (h : slices_Equal_Event x0 x1 = some r) (hv0_0 : SlView W x0 a0_0 c0_0) (hv1_0 : SlView W x1 a1_0 c1_0) :
    Gives0 Try.prog 48 #[.slice a0_0 x0.length c0_0, .slice a1_0 x1.length c1_0] W (.bool r) := by
 unfold slices_Equal_Event at h
 refine en Try.func48 Try.ntmps48 ?_
 refine qs (qr (oN 1 [] [0, 1] ?_))
 refine oe (nt (qs (qs (qr (oN 5 [(10, vb ((x0.length : Int) != (x1.length : Int)))] [0, 1] ?_)))))
 refine oe (nt (cC h (fun h22 => ?_) (fun h23 => ?_)))
 · refine qs (qr (oN 1 [(4, vb false)] [] ?_))
   refine oe (nt (qe (nr ?_)))
   obtain rfl := sI h22
   exact re [.bool false]
 refine qk (nt (qs (qs (qr (oN 3 [(13, vi 0), (12, vi (x0.length : Int))] [0, 1] ?_)))))
 refine oe (nt ?_)
 obtain ⟨r27, hL28, h29⟩ := bS h23
 obtain ⟨k30, hk31, h29⟩ := brkS h29
 refine JC_cutP (τ := (Unit) × (Unit)) (fun y => k30 y.1 = some r) (fun y35 => []) (fun y35 => []) (fun y35 => []) ?_ (fun y35 h36p => ?_)
 · refine qb (lp Unit hL28 (fun s24 y25 => [(13, vi s24), (12, vi (x0.length : Int)), (0, .v (.slice a0_0 x0.length c0_0)), (1, .v (.slice a1_0 x1.length c1_0))]) (fun s24 y25 => []) (fun s24 y25 => []) () [13, 12, 0, 1] [] 0 (fun s24 y25 t26 h32 hd33 => ?_))
   refine qs (qr (oN 1 [(14, vb (decide (s24 < (x0.length : Int))))] [13, 12, 0, 1] ?_))
   refine oe (nt (qs (cC h32 (fun h38 => ?_) (fun h39 => ?_))))
   · refine qk (nt (qs (qb (qs (qr (oN 2 [(5, vi s24)] [13, 12, 0, 1] ?_))))))
     refine oe (nt (qs (JC_quiet (by kernel_rfl) (by kernel_rfl) ?_)))
     refine qN 2 [(17, vi s24), (16, .v (.slice a0_0 x0.length c0_0))] [5, 13, 12, 0, 1] ?_
     obtain ⟨x40, hx41, h42⟩ := bS h38
     refine qi 2 (fun γ w hs => (hv0_0.kept hs.kept)) hx41 ?_
     refine ql 97 0 (vEvent x40) (fun γ w hs => (hv0_0.kept hs.kept).flatq hx41) ?_
     refine qN 2 [(21, vi s24), (20, .v (.slice a1_0 x1.length c1_0))] [19, 13, 12, 0, 1] ?_
     obtain ⟨x43, hx44, h45⟩ := bS h42
     refine qi 2 (fun γ w hs => (hv1_0.kept hs.kept)) hx44 ?_
     refine ql 97 0 (vEvent x43) (fun γ w hs => (hv1_0.kept hs.kept).flatq hx44) ?_
     refine qN 1 [(24, vb (!((x40.Kind == x43.Kind) && ((x40.Month == x43.Month) && true))))] [13, 12, 0, 1] ?_
     refine qz (nt (cC h45 (fun h47 => ?_) (fun h48 => ?_)))
     · refine qs (qr (oN 1 [(4, vb false)] [] ?_))
       refine oe (nt (qe (br (nr (nr ?_)))))
       have h49 := leafR hd33 h47 h29
       refine br (nr (nr ?_))
       obtain rfl := sI h49
       exact re [.bool false]
     refine qk (bn (nt (qr (oN 2 [(13, vi (w64 (s24 + 1)))] [12, 0, 1] ?_))))
     exact oe (ct h48 () [13, 12, 0, 1] [] 0)
   refine qx (nx (nx (bh ?_)))
   have h50 := leafB hd33 h39 h29
   exact mp ((), ()) h50 [] [] 0
 have h36 := (congrFun hk31 _).symm.trans h36p
 refine nt (qs (qr (oN 1 [(4, vb true)] [] ?_)))
 refine oe (nt (qe ?_))
 obtain rfl := sI h36
 exact re [.bool true]

theorem c_slices_Equal_int {W : World} {x0 : List Int} {a0_0 : Option Addr} {c0_0 : Nat} {x1 : List Int} {a1_0 : Option Addr} {c1_0 : Nat} {r : Bool} (h : slices_Equal_int x0 x1 = some r) (hv0_0 : SlView W x0 a0_0 c0_0) (hv1_0 : SlView W x1 a1_0 c1_0) :
    Gives0 Try.prog 49 #[.slice a0_0 x0.length c0_0, .slice a1_0 x1.length c1_0] W (.bool r) := by
 unfold slices_Equal_int at h
 refine en Try.func49 Try.ntmps49 ?_
 refine qs (qr (oN 1 [] [0, 1] ?_))
 refine oe (nt (qs (qs (qr (oN 5 [(10, vb ((x0.length : Int) != (x1.length : Int)))] [0, 1] ?_)))))
 refine oe (nt (cC h (fun h22 => ?_) (fun h23 => ?_)))
 · refine qs (qr (oN 1 [(4, vb false)] [] ?_))
   refine oe (nt (qe (nr ?_)))
   obtain rfl := sI h22
   exact re [.bool false]
 refine qk (nt (qs (qs (qr (oN 3 [(13, vi 0), (12, vi (x0.length : Int))] [0, 1] ?_)))))
 refine oe (nt ?_)
 obtain ⟨r27, hL28, h29⟩ := bS h23
 obtain ⟨k30, hk31, h29⟩ := brkS h29
 refine JC_cutP (τ := (Unit) × (Unit)) (fun y => k30 y.1 = some r) (fun y35 => []) (fun y35 => []) (fun y35 => []) ?_ (fun y35 h36p => ?_)
 · refine qb (lp Unit hL28 (fun s24 y25 => [(13, vi s24), (12, vi (x0.length : Int)), (0, .v (.slice a0_0 x0.length c0_0)), (1, .v (.slice a1_0 x1.length c1_0))]) (fun s24 y25 => []) (fun s24 y25 => []) () [13, 12, 0, 1] [] 0 (fun s24 y25 t26 h32 hd33 => ?_))
   refine qs (qr (oN 1 [(14, vb (decide (s24 < (x0.length : Int))))] [13, 12, 0, 1] ?_))
   refine oe (nt (qs (cC h32 (fun h38 => ?_) (fun h39 => ?_))))
   · refine qk (nt (qs (qb (qs (qr (oN 2 [(5, vi s24)] [13, 12, 0, 1] ?_))))))
     refine oe (nt (qs (JC_quiet (by kernel_rfl) (by kernel_rfl) ?_)))
     refine qN 2 [(17, vi s24), (16, .v (.slice a0_0 x0.length c0_0))] [5, 13, 12, 0, 1] ?_
     obtain ⟨x40, hx41, h42⟩ := bS h38
     refine qi 1 (fun γ w hs => (hv0_0.kept hs.kept)) hx41 ?_
     refine ql 3 0 (.int .i64 x40) (fun γ w hs => (hv0_0.kept hs.kept).flatq hx41) ?_
     refine qN 2 [(21, vi s24), (20, .v (.slice a1_0 x1.length c1_0))] [19, 13, 12, 0, 1] ?_
     obtain ⟨x43, hx44, h45⟩ := bS h42
     refine qi 1 (fun γ w hs => (hv1_0.kept hs.kept)) hx44 ?_
     refine ql 3 0 (.int .i64 x43) (fun γ w hs => (hv1_0.kept hs.kept).flatq hx44) ?_
     refine qN 1 [(24, vb (x40 != x43))] [13, 12, 0, 1] ?_
     refine qz (nt (cC h45 (fun h47 => ?_) (fun h48 => ?_)))
     · refine qs (qr (oN 1 [(4, vb false)] [] ?_))
       refine oe (nt (qe (br (nr (nr ?_)))))
       have h49 := leafR hd33 h47 h29
       refine br (nr (nr ?_))
       obtain rfl := sI h49
       exact re [.bool false]
     refine qk (bn (nt (qr (oN 2 [(13, vi (w64 (s24 + 1)))] [12, 0, 1] ?_))))
     exact oe (ct h48 () [13, 12, 0, 1] [] 0)
   refine qx (nx (nx (bh ?_)))
   have h50 := leafB hd33 h39 h29
   exact mp ((), ()) h50 [] [] 0
 have h36 := (congrFun hk31 _).symm.trans h36p
 refine nt (qs (qr (oN 1 [(4, vb true)] [] ?_)))
 refine oe (nt (qe ?_))
 obtain rfl := sI h36
 exact re [.bool true]

theorem c_impl_SameOffice {W : World} {x0 : Office} {b0 : AC × AC × AC × AC × AC × AC} {x1 : Office} {b1 : AC × AC × AC × AC × AC × AC} {r : Bool} (h : impl_SameOffice x0 x1 = some r) (hv0_0 : SlView W x0.Case.Book.Rules b0.1.1 b0.1.2) (hv0_1 : SlView W x0.Case.Store.Facts b0.2.1.1 b0.2.1.2) (hv0_2 : SlView W x0.Case.Series.Points b0.2.2.1.1 b0.2.2.1.2) (hv0_3 : SlView W x0.Case.Member.Spells b0.2.2.2.1.1 b0.2.2.2.1.2) (hv0_4 : SlView W x0.Case.Member.Events b0.2.2.2.2.1.1 b0.2.2.2.2.1.2) (hv0_5 : SlView W x0.Paid b0.2.2.2.2.2.1 b0.2.2.2.2.2.2) (hv1_0 : SlView W x1.Case.Book.Rules b1.1.1 b1.1.2) (hv1_1 : SlView W x1.Case.Store.Facts b1.2.1.1 b1.2.1.2) (hv1_2 : SlView W x1.Case.Series.Points b1.2.2.1.1 b1.2.2.1.2) (hv1_3 : SlView W x1.Case.Member.Spells b1.2.2.2.1.1 b1.2.2.2.1.2) (hv1_4 : SlView W x1.Case.Member.Events b1.2.2.2.2.1.1 b1.2.2.2.2.1.2) (hv1_5 : SlView W x1.Paid b1.2.2.2.2.2.1 b1.2.2.2.2.2.2) :
    Gives0 Try.prog 20 #[vOffice x0 b0, vOffice x1 b1] W (.bool r) := by
 unfold impl_SameOffice at h
 refine en Try.func20 Try.ntmps20 ?_
 refine qs (qr (oB 3 [(3, .p 1 0), (2, .p 0 0)] [] [(56, (eOffice x0 b0)), (56, (eOffice x1 b1))] ?_))
 refine oe (nt (qs (qr (oN 1 [(5, .v (.func (.func 42) #[] #[]))] [3, 2] ?_))))
 refine oe (nt (qs (JC_cut (τ := Unit) (fun _ => [(7, .p 3 0), (6, .p 2 0), (5, .v (.func (.func 42) #[] #[])), (3, .p 1 0), (2, .p 0 0)]) (fun _ => [(56, (eOffice x0 b0)), (56, (eOffice x1 b1)), (38, (eCase x0.Case (b0.1, b0.2.1, b0.2.2.1, b0.2.2.2.1, b0.2.2.2.2.1))), (38, (eCase x1.Case (b1.1, b1.2.1, b1.2.2.1, b1.2.2.2.1, b1.2.2.2.2.1)))]) (fun _ => []) ?_ (fun _ => ?_))))
 · refine jw [5, 3, 2] [] ?_
   refine JC_heldN (ks := [0, 1]) (Rk := []) 8 (by kernel_rfl) (by kernel_rfl) ?_
   refine htq 0 (.p 0 0) [] ?_
   refine htq 1 (.v (vCase x0.Case (b0.1, b0.2.1, b0.2.2.1, b0.2.2.2.1, b0.2.2.2.2.1))) [] ?_
   refine hk [9, 5, 3, 2] ?_
   refine htq 2 (.p 1 0) [] ?_
   refine htq 3 (.v (vCase x1.Case (b1.1, b1.2.1, b1.2.2.1, b1.2.2.2.1, b1.2.2.2.2.1))) [] ?_
   refine hk [11, 9, 5, 3, 2] ?_
   refine ha2 4 5 ?_ ?_
   · refine hi (fun γ0 δ hm => ?_)
     refine gs [(6, .p 2 0), (11, .v (vCase x1.Case (b1.1, b1.2.1, b1.2.2.1, b1.2.2.2.1, b1.2.2.2.2.1))), (9, .v (vCase x0.Case (b0.1, b0.2.1, b0.2.2.1, b0.2.2.2.1, b0.2.2.2.2.1))), (5, .v (.func (.func 42) #[] #[])), (3, .p 1 0), (2, .p 0 0)] [(56, (eOffice x0 b0)), (56, (eOffice x1 b1)), (38, [.slice none 0 0, .slice none 0 0, .slice none 0 0, .int .i64 0, .int .i64 0, .slice none 0 0, .slice none 0 0])] (fun δ2 => ?_)
     refine gd hm [6, 11, 9, 5, 3, 2] [] ?_
     refine ha1 5 ?_
     refine hi (fun γ0 δ hm => ?_)
     refine gs [(7, .p 3 0), (6, .p 2 0), (11, .v (vCase x1.Case (b1.1, b1.2.1, b1.2.2.1, b1.2.2.2.1, b1.2.2.2.2.1))), (9, .v (vCase x0.Case (b0.1, b0.2.1, b0.2.2.1, b0.2.2.2.1, b0.2.2.2.2.1))), (5, .v (.func (.func 42) #[] #[])), (3, .p 1 0), (2, .p 0 0)] [(56, (eOffice x0 b0)), (56, (eOffice x1 b1)), (38, [.slice none 0 0, .slice none 0 0, .slice none 0 0, .int .i64 0, .int .i64 0, .slice none 0 0, .slice none 0 0]), (38, [.slice none 0 0, .slice none 0 0, .slice none 0 0, .int .i64 0, .int .i64 0, .slice none 0 0, .slice none 0 0])] (fun δ2 => ?_)
     refine gd hm [7, 6, 11, 9, 5, 3, 2] [] ?_
     refine ha1 6 ?_
     refine hi (fun γ0 δ hm => ?_)
     refine gs [(7, .p 3 0), (6, .p 2 0), (11, .v (vCase x1.Case (b1.1, b1.2.1, b1.2.2.1, b1.2.2.2.1, b1.2.2.2.2.1))), (9, .v (vCase x0.Case (b0.1, b0.2.1, b0.2.2.1, b0.2.2.2.1, b0.2.2.2.2.1))), (5, .v (.func (.func 42) #[] #[])), (3, .p 1 0), (2, .p 0 0)] [(56, (eOffice x0 b0)), (56, (eOffice x1 b1)), (38, (eCase x0.Case (b0.1, b0.2.1, b0.2.2.1, b0.2.2.2.1, b0.2.2.2.2.1))), (38, [.slice none 0 0, .slice none 0 0, .slice none 0 0, .int .i64 0, .int .i64 0, .slice none 0 0, .slice none 0 0])] (fun δ2 => ?_)
     refine gd hm [7, 6, 11, 5, 3, 2] [] ?_
     refine ha1 7 ?_
     refine hi (fun γ0 δ hm => ?_)
     refine gs [(7, .p 3 0), (6, .p 2 0), (11, .v (vCase x1.Case (b1.1, b1.2.1, b1.2.2.1, b1.2.2.2.1, b1.2.2.2.2.1))), (5, .v (.func (.func 42) #[] #[])), (3, .p 1 0), (2, .p 0 0)] [(56, (eOffice x0 b0)), (56, (eOffice x1 b1)), (38, (eCase x0.Case (b0.1, b0.2.1, b0.2.2.1, b0.2.2.2.1, b0.2.2.2.2.1))), (38, (eCase x1.Case (b1.1, b1.2.1, b1.2.2.1, b1.2.2.2.1, b1.2.2.2.2.1)))] (fun δ2 => ?_)
     refine gd hm [7, 6, 5, 3, 2] [] ?_
     exact hd () [7, 6, 5, 3, 2] [] 4
   · refine hi (fun γ0 δ hm => ?_)
     refine gs [(7, .p 2 0), (11, .v (vCase x1.Case (b1.1, b1.2.1, b1.2.2.1, b1.2.2.2.1, b1.2.2.2.2.1))), (9, .v (vCase x0.Case (b0.1, b0.2.1, b0.2.2.1, b0.2.2.2.1, b0.2.2.2.2.1))), (5, .v (.func (.func 42) #[] #[])), (3, .p 1 0), (2, .p 0 0)] [(56, (eOffice x0 b0)), (56, (eOffice x1 b1)), (38, [.slice none 0 0, .slice none 0 0, .slice none 0 0, .int .i64 0, .int .i64 0, .slice none 0 0, .slice none 0 0])] (fun δ2 => ?_)
     refine gd hm [7, 11, 9, 5, 3, 2] [] ?_
     refine ha1 4 ?_
     refine hi (fun γ0 δ hm => ?_)
     refine gs [(6, .p 3 0), (7, .p 2 0), (11, .v (vCase x1.Case (b1.1, b1.2.1, b1.2.2.1, b1.2.2.2.1, b1.2.2.2.2.1))), (9, .v (vCase x0.Case (b0.1, b0.2.1, b0.2.2.1, b0.2.2.2.1, b0.2.2.2.2.1))), (5, .v (.func (.func 42) #[] #[])), (3, .p 1 0), (2, .p 0 0)] [(56, (eOffice x0 b0)), (56, (eOffice x1 b1)), (38, [.slice none 0 0, .slice none 0 0, .slice none 0 0, .int .i64 0, .int .i64 0, .slice none 0 0, .slice none 0 0]), (38, [.slice none 0 0, .slice none 0 0, .slice none 0 0, .int .i64 0, .int .i64 0, .slice none 0 0, .slice none 0 0])] (fun δ2 => ?_)
     refine gd hm [6, 7, 11, 9, 5, 3, 2] [] ?_
     refine ha1 6 ?_
     refine hi (fun γ0 δ hm => ?_)
     refine gs [(6, .p 3 0), (7, .p 2 0), (11, .v (vCase x1.Case (b1.1, b1.2.1, b1.2.2.1, b1.2.2.2.1, b1.2.2.2.2.1))), (9, .v (vCase x0.Case (b0.1, b0.2.1, b0.2.2.1, b0.2.2.2.1, b0.2.2.2.2.1))), (5, .v (.func (.func 42) #[] #[])), (3, .p 1 0), (2, .p 0 0)] [(56, (eOffice x0 b0)), (56, (eOffice x1 b1)), (38, [.slice none 0 0, .slice none 0 0, .slice none 0 0, .int .i64 0, .int .i64 0, .slice none 0 0, .slice none 0 0]), (38, (eCase x0.Case (b0.1, b0.2.1, b0.2.2.1, b0.2.2.2.1, b0.2.2.2.2.1)))] (fun δ2 => ?_)
     refine gd hm [6, 7, 11, 5, 3, 2] [] ?_
     refine ha1 7 ?_
     refine hi (fun γ0 δ hm => ?_)
     refine gs [(6, .p 3 0), (7, .p 2 0), (11, .v (vCase x1.Case (b1.1, b1.2.1, b1.2.2.1, b1.2.2.2.1, b1.2.2.2.2.1))), (5, .v (.func (.func 42) #[] #[])), (3, .p 1 0), (2, .p 0 0)] [(56, (eOffice x0 b0)), (56, (eOffice x1 b1)), (38, (eCase x1.Case (b1.1, b1.2.1, b1.2.2.1, b1.2.2.2.1, b1.2.2.2.2.1))), (38, (eCase x0.Case (b0.1, b0.2.1, b0.2.2.1, b0.2.2.2.1, b0.2.2.2.2.1)))] (fun δ2 => ?_)
     refine gd hm [6, 7, 5, 3, 2] [] ?_
     exact JH_doneP (by kernel_rfl) () [7, 6, 5, 3, 2] [] 4 [0, 1, 3, 2] [0, 1, 3, 2] (by kernel_rfl) (by kernel_rfl) (by kernel_rfl) (by kernel_rfl) (by kernel_rfl)
 refine nt (qs ?_)
 obtain ⟨p22, hE23, h24⟩ := bS h
 refine JC_cut (τ := Unit) (fun _ => [(4, vb p22)]) (fun _ => [(56, (eOffice x0 b0)), (56, (eOffice x1 b1)), (38, (eCase x0.Case (b0.1, b0.2.1, b0.2.2.1, b0.2.2.2.1, b0.2.2.2.2.1))), (38, (eCase x1.Case (b1.1, b1.2.1, b1.2.2.1, b1.2.2.2.1, b1.2.2.2.2.1)))]) (fun _ => []) ?_ (fun _ => ?_)
 · refine qr (oN 7 [(18, .v (.func (.func 42) #[] #[])), (17, .v (.slice b1.1.1 x1.Case.Book.Rules.length b1.1.2)), (14, .v (.slice b0.1.1 x0.Case.Book.Rules.length b0.1.2))] [7, 6, 3, 2] ?_)
   obtain ⟨t25, h26, h27⟩ := bS hE23
   refine k0 (fun γ w hs => c_slices_EqualFunc_Rule__impl_SameOffice_1 h26 (hv0_0.kept hs.kept) (hv1_0.kept hs.kept)) ?_
   refine oN 1 [(20, vb t25)] [7, 6, 3, 2] ?_
   refine oS 20 h27 (fun h30 => ?_) (fun h31 => ?_)
   · refine oN 6 [(26, .v (.slice b1.2.1.1 x1.Case.Store.Facts.length b1.2.1.2)), (23, .v (.slice b0.2.1.1 x0.Case.Store.Facts.length b0.2.1.2))] [20, 7, 6, 3, 2] ?_
     obtain ⟨t32, h33, h34⟩ := bS h30
     refine k0 (fun γ w hs => c_slices_Equal_Fact h33 (hv0_1.kept hs.kept) (hv1_1.kept hs.kept)) ?_
     refine oN 2 [(29, vb t32)] [7, 6, 3, 2] ?_
     refine oS 29 h34 (fun h37 => ?_) (fun h38 => ?_)
     · refine oN 6 [(35, .v (.slice b1.2.2.1.1 x1.Case.Series.Points.length b1.2.2.1.2)), (32, .v (.slice b0.2.2.1.1 x0.Case.Series.Points.length b0.2.2.1.2))] [29, 7, 6, 3, 2] ?_
       obtain ⟨t39, h40, h41⟩ := bS h37
       refine k0 (fun γ w hs => c_slices_Equal_Point h40 (hv0_2.kept hs.kept) (hv1_2.kept hs.kept)) ?_
       refine oN 2 [(38, vb t39)] [7, 6, 3, 2] ?_
       refine oS 38 h41 (fun h44 => ?_) (fun h45 => ?_)
       · refine oN 9 [(47, vb (x0.Case.Member.Birth == x1.Case.Member.Birth))] [7, 6, 3, 2] ?_
         refine oS 47 h44 (fun h47 => ?_) (fun h48 => ?_)
         · refine oN 9 [(56, vb (x0.Case.Member.Joined == x1.Case.Member.Joined))] [7, 6, 3, 2] ?_
           refine oS 56 h47 (fun h50 => ?_) (fun h51 => ?_)
           · refine oN 6 [(62, .v (.slice b1.2.2.2.1.1 x1.Case.Member.Spells.length b1.2.2.2.1.2)), (59, .v (.slice b0.2.2.2.1.1 x0.Case.Member.Spells.length b0.2.2.2.1.2))] [56, 7, 6, 3, 2] ?_
             obtain ⟨t52, h53, h54⟩ := bS h50
             refine k0 (fun γ w hs => c_slices_Equal_Spell h53 (hv0_3.kept hs.kept) (hv1_3.kept hs.kept)) ?_
             refine oN 2 [(65, vb t52)] [7, 6, 3, 2] ?_
             refine oS 65 h54 (fun h57 => ?_) (fun h58 => ?_)
             · refine oN 6 [(71, .v (.slice b1.2.2.2.2.1.1 x1.Case.Member.Events.length b1.2.2.2.2.1.2)), (68, .v (.slice b0.2.2.2.2.1.1 x0.Case.Member.Events.length b0.2.2.2.2.1.2))] [65, 3, 2] ?_
               obtain ⟨t59, h60, h61⟩ := bS h57
               refine k0 (fun γ w hs => c_slices_Equal_Event h60 (hv0_4.kept hs.kept) (hv1_4.kept hs.kept)) ?_
               refine oN 2 [(74, vb t59)] [3, 2] ?_
               refine oS 74 h61 (fun h64 => ?_) (fun h65 => ?_)
               · refine oN 7 [(81, vb (x0.Start == x1.Start))] [3, 2] ?_
                 refine oS 81 h64 (fun h67 => ?_) (fun h68 => ?_)
                 · refine oN 4 [(85, .v (.slice b1.2.2.2.2.2.1 x1.Paid.length b1.2.2.2.2.2.2)), (83, .v (.slice b0.2.2.2.2.2.1 x0.Paid.length b0.2.2.2.2.2.2))] [81] ?_
                   obtain ⟨t69, h70, h71⟩ := bS h67
                   refine k0 (fun γ w hs => c_slices_Equal_int h70 (hv0_5.kept hs.kept) (hv1_5.kept hs.kept)) ?_
                   refine oN 2 [(4, vb t69)] [] ?_
                   refine oe ?_
                   obtain rfl := sI h71
                   exact mt () [4] [] 4
                 refine oN 7 [(4, vb false)] [] ?_
                 refine oe ?_
                 obtain rfl := sI h68
                 exact mt () [4] [] 4
               refine oN 14 [(4, vb false)] [] ?_
               refine oe ?_
               obtain rfl := sI h65
               exact mt () [4] [] 4
             refine oN 23 [(4, vb false)] [] ?_
             refine oe ?_
             obtain rfl := sI h58
             exact mt () [4] [] 4
           refine oN 32 [(4, vb false)] [] ?_
           refine oe ?_
           obtain rfl := sI h51
           exact mt () [4] [] 4
         refine oN 41 [(4, vb false)] [] ?_
         refine oe ?_
         obtain rfl := sI h48
         exact mt () [4] [] 4
       refine oN 50 [(4, vb false)] [] ?_
       refine oe ?_
       obtain rfl := sI h45
       exact mt () [4] [] 4
     refine oN 59 [(4, vb false)] [] ?_
     refine oe ?_
     obtain rfl := sI h38
     exact mt () [4] [] 4
   refine oN 68 [(4, vb false)] [] ?_
   refine oe ?_
   obtain rfl := sI h31
   exact mt () [4] [] 4
 refine nt (qe ?_)
 obtain rfl := sI h24
 exact re [.bool p22]

theorem c_laws_FnSame {W : World} {x0 : List U8} {a0_0 : Option Addr} {c0_0 : Nat} {r : Bool} (h : laws_FnSame x0 = some r) (hv0_0 : SlView W x0 a0_0 c0_0) :
    Gives0 Try.prog 5 #[.slice a0_0 x0.length c0_0] W (.bool r) := by
 unfold laws_FnSame at h
 refine en Try.func5 Try.ntmps5 ?_
 refine qs (qr (oN 1 [] [0] ?_))
 refine oe (nt (qs (qs (qr (oN 1 [(8, .v (.slice a0_0 x0.length c0_0))] [0] ?_)))))
 obtain ⟨t21, h22, h23⟩ := bS h
 refine k0 (fun γ w hs => c_laws_big h22 (hv0_0.kept hs.kept)) ?_
 refine oe (nt (cC h23 (fun h26 => ?_) (fun h27 => ?_)))
 · refine qs (qr (oN 1 [(2, vb true)] [] ?_))
   refine oe (nt (qe (nr ?_)))
   obtain rfl := sI h26
   exact re [.bool true]
 refine qk (nt (qs (qr (oN 1 [(10, .v (.slice a0_0 x0.length c0_0))] [] ?_))))
 obtain ⟨t28, h29, h30⟩ := bS h27
 refine k1 (fun γ w hs => c_spec_DrawOffice h29 (hv0_0.kept hs.kept)) (fun y31 => ?_)
 refine oB 2 [(3, .p 0 0)] [] [(56, (eOffice t28 y31))] ?_
 refine oe (nt (qs (qr (oN 1 [(13, .v (vOffice t28 y31))] [3] ?_))))
 obtain ⟨t32, h33, h34⟩ := bS h30
 refine k1 (fun γ w hs => c_spec_PayMonth (b0 := y31) h33 (hs.view 0 rfl) (hs.view 1 rfl) (hs.view 2 rfl) (hs.view 3 rfl) (hs.view 4 rfl) (hs.view 5 rfl)) (fun y35 => ?_)
 refine oB 8 [(6, vb t32.2.2), (4, .p 1 0)] [3] [(56, (eOffice t28 y31)), (56, (eOffice t32.1 y35))] ?_
 refine oe (nt (qs (qr (oB 3 [(7, .p 2 0)] [6, 4, 3] [(56, (eOffice t28 y31)), (56, (eOffice t32.1 y35)), (56, (eOffice t28 y31))] ?_))))
 refine oe (nt (qs (qr (oB 5 [] [7, 6, 4, 3] [(56, (eOffice t28 y31)), (56, (eOffice t32.1 y35)), (56, (eOffice (Office.mk t28.Case (w64 (t28.Start + 1)) t28.Paid) y31))] ?_))))
 refine oe (nt (qs ?_))
 obtain ⟨p36, hE37, h38⟩ := bS h34
 refine JC_cut (τ := Unit) (fun _ => [(2, vb p36)]) (fun _ => [(56, (eOffice t28 y31)), (56, (eOffice t32.1 y35)), (56, (eOffice (Office.mk t28.Case (w64 (t28.Start + 1)) t28.Paid) y31))]) (fun _ => [SlRes 48 t28.Case.Book.Rules y31.1.1 y31.1.2, SlRes 79 t28.Case.Store.Facts y31.2.1.1 y31.2.1.2, SlRes 75 t28.Case.Series.Points y31.2.2.1.1 y31.2.2.1.2, SlRes 94 t28.Case.Member.Spells y31.2.2.2.1.1 y31.2.2.2.1.2, SlRes 97 t28.Case.Member.Events y31.2.2.2.2.1.1 y31.2.2.2.2.1.2, SlRes 3 t28.Paid y31.2.2.2.2.2.1 y31.2.2.2.2.2.2, SlRes 48 t32.1.Case.Book.Rules y35.1.1 y35.1.2, SlRes 79 t32.1.Case.Store.Facts y35.2.1.1 y35.2.1.2, SlRes 75 t32.1.Case.Series.Points y35.2.2.1.1 y35.2.2.1.2, SlRes 94 t32.1.Case.Member.Spells y35.2.2.2.1.1 y35.2.2.2.1.2, SlRes 97 t32.1.Case.Member.Events y35.2.2.2.2.1.1 y35.2.2.2.2.1.2, SlRes 3 t32.1.Paid y35.2.2.2.2.2.1 y35.2.2.2.2.2.2]) ?_ (fun _ => ?_)
 · refine qr (oN 2 [(24, vb t32.2.2)] [7, 4, 3] ?_)
   refine oS 24 hE37 (fun h40 => ?_) (fun h41 => ?_)
   · refine oN 2 [(26, .v (vOffice t28 y31)), (25, .v (vOffice t28 y31))] [24, 7, 4, 3] ?_
     obtain ⟨t42, h43, h44⟩ := bS h40
     refine k0 (fun γ w hs => c_impl_SameOffice (b0 := y31) (b1 := y31) h43 (hs.view 6 rfl) (hs.view 7 rfl) (hs.view 8 rfl) (hs.view 9 rfl) (hs.view 10 rfl) (hs.view 11 rfl) (hs.view 6 rfl) (hs.view 7 rfl) (hs.view 8 rfl) (hs.view 9 rfl) (hs.view 10 rfl) (hs.view 11 rfl)) ?_
     refine oN 2 [(29, vb t42)] [7, 4, 3] ?_
     refine oS 29 h44 (fun h47 => ?_) (fun h48 => ?_)
     · refine oN 2 [(31, .v (vOffice t32.1 y35)), (30, .v (vOffice t28 y31))] [29, 7, 4, 3] ?_
       obtain ⟨t49, h50, h51⟩ := bS h47
       refine k0 (fun γ w hs => c_impl_SameOffice (b0 := y31) (b1 := y35) h50 (hs.view 6 rfl) (hs.view 7 rfl) (hs.view 8 rfl) (hs.view 9 rfl) (hs.view 10 rfl) (hs.view 11 rfl) (hs.view 0 rfl) (hs.view 1 rfl) (hs.view 2 rfl) (hs.view 3 rfl) (hs.view 4 rfl) (hs.view 5 rfl)) ?_
       refine oN 3 [(35, vb (!t49))] [7, 4, 3] ?_
       refine oS 35 h51 (fun h54 => ?_) (fun h55 => ?_)
       · refine oN 2 [(37, .v (vOffice t28 y31)), (36, .v (vOffice t32.1 y35))] [35, 7, 3] ?_
         obtain ⟨t56, h57, h58⟩ := bS h54
         refine k0 (fun γ w hs => c_impl_SameOffice (b0 := y35) (b1 := y31) h57 (hs.view 0 rfl) (hs.view 1 rfl) (hs.view 2 rfl) (hs.view 3 rfl) (hs.view 4 rfl) (hs.view 5 rfl) (hs.view 6 rfl) (hs.view 7 rfl) (hs.view 8 rfl) (hs.view 9 rfl) (hs.view 10 rfl) (hs.view 11 rfl)) ?_
         refine oN 3 [(41, vb (!t56))] [7, 3] ?_
         refine oS 41 h58 (fun h61 => ?_) (fun h62 => ?_)
         · refine oN 2 [(43, .v (vOffice (Office.mk t28.Case (w64 (t28.Start + 1)) t28.Paid) y31)), (42, .v (vOffice t28 y31))] [41] ?_
           obtain ⟨t63, h64, h65⟩ := bS h61
           refine k0 (fun γ w hs => c_impl_SameOffice (b0 := y31) (b1 := y31) h64 (hs.view 6 rfl) (hs.view 7 rfl) (hs.view 8 rfl) (hs.view 9 rfl) (hs.view 10 rfl) (hs.view 11 rfl) (hs.view 6 rfl) (hs.view 7 rfl) (hs.view 8 rfl) (hs.view 9 rfl) (hs.view 10 rfl) (hs.view 11 rfl)) ?_
           refine oN 3 [(2, vb (!t63))] [] ?_
           refine oe ?_
           obtain rfl := sI h65
           exact mt () [2] [6, 6, 6, 6, 6, 6, 0, 0, 0, 0, 0, 0] 3
         refine oN 6 [(2, vb false)] [] ?_
         refine oe ?_
         obtain rfl := sI h62
         exact mt () [2] [6, 6, 6, 6, 6, 6, 0, 0, 0, 0, 0, 0] 3
       refine oN 12 [(2, vb false)] [] ?_
       refine oe ?_
       obtain rfl := sI h55
       exact mt () [2] [6, 6, 6, 6, 6, 6, 0, 0, 0, 0, 0, 0] 3
     refine oN 18 [(2, vb false)] [] ?_
     refine oe ?_
     obtain rfl := sI h48
     exact mt () [2] [6, 6, 6, 6, 6, 6, 0, 0, 0, 0, 0, 0] 3
   refine oN 23 [(2, vb false)] [] ?_
   refine oe ?_
   obtain rfl := sI h41
   exact mt () [2] [6, 6, 6, 6, 6, 6, 0, 0, 0, 0, 0, 0] 3
 refine nt (qe ?_)
 obtain rfl := sI h38
 exact re [.bool p36]
end Go.Pen
