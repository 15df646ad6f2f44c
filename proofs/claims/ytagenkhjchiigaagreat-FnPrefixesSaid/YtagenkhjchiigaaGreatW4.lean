/-
  Each Go function does what its plain function says: written by a program of ours.
-/
import Derived.Test.YtagenkhjchiigaaGreatW3
import Derived.Test.YtagenkhjchiigaaGreatProg
import Derived.Test.YtagenkhjchiigaaGreatPenK
import Derived.Test.YtagenkhjchiigaaGreatPenJ
import Derived.Test.YtagenkhjchiigaaGreatPenP
import Derived.Test.YtagenkhjchiigaaGreatPenQ
import Derived.Test.YtagenkhjchiigaaGreatPenU
namespace Go.Pen
open Go.Proofs Go.RowKit
set_option linter.unusedVariables false
set_option linter.unusedSimpArgs false
set_option maxRecDepth 100000
set_option maxHeartbeats 4000000

theorem c_laws_FnPrefixes {W : World} {x0 : List U8} {a0_0 : Option Addr} {c0_0 : Nat} {r : Bool} (h : laws_FnPrefixes x0 = some r) (hv0_0 : SlView W x0 a0_0 c0_0) :
    Gives0 Tryz.prog 5 #[.slice a0_0 x0.length c0_0] W (.bool r) := by
 unfold laws_FnPrefixes at h
 refine en Tryz.func5 Tryz.ntmps5 ?_
 refine qs (qr (oN 1 [] [0] ?_))
 refine oe (nt (qs (qs (qr (oN 1 [(15, .v (.slice a0_0 x0.length c0_0))] [0] ?_)))))
 obtain ⟨t21, h22, h23⟩ := bS h
 refine k0 (fun γ w hs => c_laws_big h22 (hv0_0.kept hs.kept)) ?_
 refine oe (nt (cC h23 (fun h26 => ?_) (fun h27 => ?_)))
 · refine qs (qr (oN 1 [(2, vb true)] [] ?_))
   refine oe (nt (qe (nr ?_)))
   obtain rfl := sI h26
   exact re [.bool true]
 refine qk (nt (qs (qr (oN 1 [(18, .v (.slice a0_0 x0.length c0_0))] [0] ?_))))
 obtain ⟨t28, h29, h30⟩ := bS h27
 refine k1 (fun γ w hs => c_spec_DrawActs h29 (hv0_0.kept hs.kept)) (fun y31 => ?_)
 refine oB 8 [(5, .v (.slice y31.2.1 t28.2.2.length y31.2.2)), (4, vi t28.2.1), (3, .p 0 0)] [0] [(38, (eCase t28.1 y31.1))] ?_
 refine oe (nt (qs (qr (oN 1 [(23, .v (.slice a0_0 x0.length c0_0))] [5, 4, 3] ?_))))
 obtain ⟨t32, h33, h34⟩ := bS h30
 refine k1 (fun γ w hs => c_spec_DrawPlaces h33 (hv0_0.kept hs.kept)) (fun y35 => ?_)
 refine oN 1 [(6, .v (.slice y35.1 t32.length y35.2))] [5, 4, 3] ?_
 refine oe (nt (qs (qr (oN 1 [(25, .v (.slice y35.1 t32.length y35.2))] [5, 4, 3] ?_))))
 obtain ⟨x36, hx37, h38⟩ := bS h34
 refine oi 1 (fun γ w hs => (hs.view 0 rfl)) hx37 ?_
 refine ol 3 0 (.int .i64 x36) (fun γ w hs => (hs.view 0 rfl).flatq hx37) ?_
 refine oN 3 [(30, vi (w64 ((t28.2.2.length : Int) + 1)))] [27, 5, 4, 3] ?_
 obtain ⟨u41, hz40, h39⟩ := bS h38
 refine JO_div rfl (by kernel_rfl) (op := .rem) (k := .i64) (x := x36) (y := (w64 ((t28.2.2.length : Int) + 1))) (by kernel_rfl) (nz_some hz40) rfl ?_
 refine oN 1 [(7, vi (Int.tmod x36 (w64 ((t28.2.2.length : Int) + 1))))] [5, 4, 3] ?_
 refine oe (nt (qs ?_))
 obtain ⟨l42, hm43, h44⟩ := bS h39
 obtain ⟨t45, h46, h47⟩ := bS h44
 refine JC_cut (τ := ((AC × AC × AC × AC × AC × AC) × AC)) (fun y49 => [(9, .v (.slice y49.2.1 t45.2.length y49.2.2)), (8, .p 1 0), (7, vi (Int.tmod x36 (w64 ((t28.2.2.length : Int) + 1)))), (5, .v (.slice y31.2.1 t28.2.2.length y31.2.2)), (4, vi t28.2.1), (3, .p 0 0)]) (fun y49 => [(38, (eCase t28.1 y31.1)), (41, (eOffice t45.1 y49.1))]) (fun y49 => [SlRes 76 t45.1.Case.Book.Rules y49.1.1.1 y49.1.1.2, SlRes 47 t45.1.Case.Store.Facts y49.1.2.1.1 y49.1.2.1.2, SlRes 52 t45.1.Case.Series.Points y49.1.2.2.1.1 y49.1.2.2.1.2, SlRes 156 t45.1.Case.Member.Spells y49.1.2.2.2.1.1 y49.1.2.2.2.1.2, SlRes 158 t45.1.Case.Member.Events y49.1.2.2.2.2.1.1 y49.1.2.2.2.2.1.2, SlRes 3 t45.1.Paid y49.1.2.2.2.2.2.1 y49.1.2.2.2.2.2.2, SlRes 3 t45.2 y49.2.1 y49.2.2, SlRes 3 t32 y35.1 y35.2, SlRes 76 t28.1.Book.Rules y31.1.1.1 y31.1.1.2, SlRes 47 t28.1.Store.Facts y31.1.2.1.1 y31.1.2.1.2, SlRes 52 t28.1.Series.Points y31.1.2.2.1.1 y31.1.2.2.1.2, SlRes 156 t28.1.Member.Spells y31.1.2.2.2.1.1 y31.1.2.2.2.1.2, SlRes 158 t28.1.Member.Events y31.1.2.2.2.2.1 y31.1.2.2.2.2.2, SlRes 66 t28.2.2 y31.2.1 y31.2.2]) ?_ (fun y49 => ?_)
 · refine JC_weak [7, 5, 4, 3] [0, 0, 0, 0, 0, 0, 0] 1 (sl' := [(7, vi (Int.tmod x36 (w64 ((t28.2.2.length : Int) + 1)))), (5, .v (.slice y31.2.1 t28.2.2.length y31.2.2)), (4, vi t28.2.1), (3, .p 0 0)]) (bx' := [(38, (eCase t28.1 y31.1))]) (R' := [SlRes 3 t32 y35.1 y35.2, SlRes 76 t28.1.Book.Rules y31.1.1.1 y31.1.1.2, SlRes 47 t28.1.Store.Facts y31.1.2.1.1 y31.1.2.1.2, SlRes 52 t28.1.Series.Points y31.1.2.2.1.1 y31.1.2.2.1.2, SlRes 156 t28.1.Member.Spells y31.1.2.2.2.1.1 y31.1.2.2.2.1.2, SlRes 158 t28.1.Member.Events y31.1.2.2.2.2.1 y31.1.2.2.2.2.2, SlRes 66 t28.2.2 y31.2.1 y31.2.2]) (by kernel_rfl) (by kernel_rfl) (by kernel_rfl) (by kernel_rfl) ?_
   refine JC_heldN (ks := [0]) (Rk := [SlRes 3 t32 y35.1 y35.2, SlRes 76 t28.1.Book.Rules y31.1.1.1 y31.1.1.2, SlRes 47 t28.1.Store.Facts y31.1.2.1.1 y31.1.2.1.2, SlRes 52 t28.1.Series.Points y31.1.2.2.1.1 y31.1.2.2.1.2, SlRes 156 t28.1.Member.Spells y31.1.2.2.2.1.1 y31.1.2.2.2.1.2, SlRes 158 t28.1.Member.Events y31.1.2.2.2.2.1 y31.1.2.2.2.2.2, SlRes 66 t28.2.2 y31.2.1 y31.2.2]) 12 (by kernel_rfl) (by kernel_rfl) ?_
   refine htq 0 (.v (vCase t28.1 y31.1)) [0, 0, 0, 0, 0, 0, 0] ?_
   refine htq 1 (vi t28.2.1) [0, 0, 0, 0, 0, 0, 0] ?_
   refine htq 2 (.v (.slice y31.2.1 t28.2.2.length y31.2.2)) [0, 0, 0, 0, 0, 0, 0] ?_
   refine htq 3 (vi (Int.tmod x36 (w64 ((t28.2.2.length : Int) + 1)))) [0, 0, 0, 0, 0, 0, 0] ?_
   refine ht 4 (.v (.slice y31.2.1 l42.length y31.2.2)) [0, 0, 0, 0, 0, 0, 0] (head_held (α := Act) (a0 := y31.2.1) (n0 := t28.2.2.length) (c0 := y31.2.2) (hi := (Int.tmod x36 (w64 ((t28.2.2.length : Int) + 1)))) (by kernel_rfl) hm43 (fun γ0 w hs => (hs.view 6 rfl))) ?_
   refine hk [37, 34, 33, 7, 5, 4, 3] ?_
   refine ha2 5 9 ?_ ?_
   · refine hi (fun γ0 δ hm => ?_)
     refine g1 (fun w hs => c_impl_RunActs (b0 := y31.1) h46 (hs.view 1 rfl) (hs.view 2 rfl) (hs.view 3 rfl) (hs.view 4 rfl) (hs.view 5 rfl) (SlView.head (hs.view 6 rfl) hm43)) (fun y48 => ?_)
     refine gn hm [38, 7, 5, 4, 3] [7, 7, 7, 7, 7, 7, 7] ?_
     refine htq 6 (.v (.tuple #[vOffice t45.1 y48.1, .slice y48.2.1 t45.2.length y48.2.2])) [7, 7, 7, 7, 7, 7, 7] ?_
     refine hk [32, 7, 5, 4, 3] ?_
     refine htq 7 (.v (vOffice t45.1 y48.1)) [7, 7, 7, 7, 7, 7, 7] ?_
     refine htq 8 (.v (.slice y48.2.1 t45.2.length y48.2.2)) [7, 7, 7, 7, 7, 7, 7] ?_
     refine hk [40, 39, 7, 5, 4, 3] ?_
     refine ha1 9 ?_
     refine hi (fun γ0 δ hm => ?_)
     refine gs [(8, .p 1 0), (40, .v (.slice y48.2.1 t45.2.length y48.2.2)), (39, .v (vOffice t45.1 y48.1)), (7, vi (Int.tmod x36 (w64 ((t28.2.2.length : Int) + 1)))), (5, .v (.slice y31.2.1 t28.2.2.length y31.2.2)), (4, vi t28.2.1), (3, .p 0 0)] [(38, (eCase t28.1 y31.1)), (41, [.slice none 0 0, .slice none 0 0, .slice none 0 0, .int .i64 0, .int .i64 0, .slice none 0 0, .slice none 0 0, .int .i64 0, .slice none 0 0])] (fun δ2 => ?_)
     refine gd hm [8, 40, 39, 7, 5, 4, 3] [7, 7, 7, 7, 7, 7, 7] ?_
     refine ha1 10 ?_
     refine hi (fun γ0 δ hm => ?_)
     refine gs [(8, .p 1 0), (40, .v (.slice y48.2.1 t45.2.length y48.2.2)), (39, .v (vOffice t45.1 y48.1)), (7, vi (Int.tmod x36 (w64 ((t28.2.2.length : Int) + 1)))), (5, .v (.slice y31.2.1 t28.2.2.length y31.2.2)), (4, vi t28.2.1), (3, .p 0 0)] [(38, (eCase t28.1 y31.1)), (41, (eOffice t45.1 y48.1))] (fun δ2 => ?_)
     refine gd hm [8, 40, 7, 5, 4, 3] [7, 7, 7, 7, 7, 7, 7] ?_
     refine htq 11 (.v (.slice y48.2.1 t45.2.length y48.2.2)) [7, 7, 7, 7, 7, 7, 7] ?_
     refine hk [9, 8, 7, 5, 4, 3] ?_
     exact hd y48 [9, 8, 7, 5, 4, 3] [0, 0, 0, 0, 0, 0, 0, 0, 0, 0, 0, 0, 0, 0] 2
   · refine hi (fun γ0 δ hm => ?_)
     refine gs [(8, .p 1 0), (37, .v (.slice y31.2.1 l42.length y31.2.2)), (34, vi t28.2.1), (33, .v (vCase t28.1 y31.1)), (7, vi (Int.tmod x36 (w64 ((t28.2.2.length : Int) + 1)))), (5, .v (.slice y31.2.1 t28.2.2.length y31.2.2)), (4, vi t28.2.1), (3, .p 0 0)] [(38, (eCase t28.1 y31.1)), (41, [.slice none 0 0, .slice none 0 0, .slice none 0 0, .int .i64 0, .int .i64 0, .slice none 0 0, .slice none 0 0, .int .i64 0, .slice none 0 0])] (fun δ2 => ?_)
     refine gd hm [8, 37, 34, 33, 7, 5, 4, 3] [0, 0, 0, 0, 0, 0, 0] ?_
     refine ha1 5 ?_
     refine hi (fun γ0 δ hm => ?_)
     refine g1 (fun w hs => c_impl_RunActs (b0 := y31.1) h46 (hs.view 1 rfl) (hs.view 2 rfl) (hs.view 3 rfl) (hs.view 4 rfl) (hs.view 5 rfl) (SlView.head (hs.view 6 rfl) hm43)) (fun y48 => ?_)
     refine gn hm [38, 8, 7, 5, 4, 3] [7, 7, 7, 7, 7, 7, 7] ?_
     refine htq 6 (.v (.tuple #[vOffice t45.1 y48.1, .slice y48.2.1 t45.2.length y48.2.2])) [7, 7, 7, 7, 7, 7, 7] ?_
     refine hk [32, 8, 7, 5, 4, 3] ?_
     refine htq 7 (.v (vOffice t45.1 y48.1)) [7, 7, 7, 7, 7, 7, 7] ?_
     refine htq 8 (.v (.slice y48.2.1 t45.2.length y48.2.2)) [7, 7, 7, 7, 7, 7, 7] ?_
     refine hk [40, 39, 8, 7, 5, 4, 3] ?_
     refine ha1 10 ?_
     refine hi (fun γ0 δ hm => ?_)
     refine gs [(40, .v (.slice y48.2.1 t45.2.length y48.2.2)), (39, .v (vOffice t45.1 y48.1)), (8, .p 1 0), (7, vi (Int.tmod x36 (w64 ((t28.2.2.length : Int) + 1)))), (5, .v (.slice y31.2.1 t28.2.2.length y31.2.2)), (4, vi t28.2.1), (3, .p 0 0)] [(38, (eCase t28.1 y31.1)), (41, (eOffice t45.1 y48.1))] (fun δ2 => ?_)
     refine gd hm [40, 8, 7, 5, 4, 3] [7, 7, 7, 7, 7, 7, 7] ?_
     refine htq 11 (.v (.slice y48.2.1 t45.2.length y48.2.2)) [7, 7, 7, 7, 7, 7, 7] ?_
     refine hk [9, 8, 7, 5, 4, 3] ?_
     exact hd y48 [9, 8, 7, 5, 4, 3] [0, 0, 0, 0, 0, 0, 0, 0, 0, 0, 0, 0, 0, 0] 2
 refine nt (qs (qs (qr (oN 2 [(10, vi (Int.tmod x36 (w64 ((t28.2.2.length : Int) + 1))))] [9, 8, 5, 4, 3] ?_))))
 refine oe (nt ?_)
 obtain ⟨r53, hL54, h55⟩ := bS h47
 obtain ⟨k56, hk57, h55⟩ := brkS h55
 refine JC_cutP (τ := ((List Int) × Int × Int × Int × (List Rule) × (List Fact) × (List Point) × Int × Int × (List Spell) × (List Event) × Int × (List Int)) × (AC × AC × AC × AC × AC × AC × AC)) (fun y => k56 y.1 = some r) (fun y61 => [(9, .v (.slice y61.2.1.1 y61.1.1.length y61.2.1.2)), (8, .p 1 0), (5, .v (.slice y31.2.1 t28.2.2.length y31.2.2)), (4, vi y61.1.2.1), (3, .p 0 0)]) (fun y61 => [(38, (eCase (Case.mk t28.1.Book t28.1.Store t28.1.Series (Member.mk y61.1.2.2.1 y61.1.2.2.2.1 t28.1.Member.Spells t28.1.Member.Events)) y31.1)), (41, (eOffice (Office.mk (Case.mk (Book.mk y61.1.2.2.2.2.1) (Store.mk y61.1.2.2.2.2.2.1) (Series.mk y61.1.2.2.2.2.2.2.1) (Member.mk y61.1.2.2.2.2.2.2.2.1 y61.1.2.2.2.2.2.2.2.2.1 y61.1.2.2.2.2.2.2.2.2.2.1 y61.1.2.2.2.2.2.2.2.2.2.2.1)) y61.1.2.2.2.2.2.2.2.2.2.2.2.1 y61.1.2.2.2.2.2.2.2.2.2.2.2.2) y61.2.2))]) (fun y61 => [SlRes 3 y61.1.1 y61.2.1.1 y61.2.1.2, SlRes 66 t28.2.2 y31.2.1 y31.2.2, SlRes 76 t28.1.Book.Rules y31.1.1.1 y31.1.1.2, SlRes 47 t28.1.Store.Facts y31.1.2.1.1 y31.1.2.1.2, SlRes 52 t28.1.Series.Points y31.1.2.2.1.1 y31.1.2.2.1.2, SlRes 156 t28.1.Member.Spells y31.1.2.2.2.1.1 y31.1.2.2.2.1.2, SlRes 158 t28.1.Member.Events y31.1.2.2.2.2.1 y31.1.2.2.2.2.2, SlRes 76 y61.1.2.2.2.2.1 y61.2.2.1.1 y61.2.2.1.2, SlRes 47 y61.1.2.2.2.2.2.1 y61.2.2.2.1.1 y61.2.2.2.1.2, SlRes 52 y61.1.2.2.2.2.2.2.1 y61.2.2.2.2.1.1 y61.2.2.2.2.1.2, SlRes 156 y61.1.2.2.2.2.2.2.2.2.2.1 y61.2.2.2.2.2.1.1 y61.2.2.2.2.2.1.2, SlRes 158 y61.1.2.2.2.2.2.2.2.2.2.2.1 y61.2.2.2.2.2.2.1.1 y61.2.2.2.2.2.2.1.2, SlRes 3 y61.1.2.2.2.2.2.2.2.2.2.2.2.2 y61.2.2.2.2.2.2.2.1 y61.2.2.2.2.2.2.2.2]) ?_ (fun y61 h62p => ?_)
 · refine qb (lp (AC × AC × AC × AC × AC × AC × AC) hL54 (fun s50 y51 => [(10, vi s50.1), (9, .v (.slice y51.1.1 s50.2.1.length y51.1.2)), (8, .p 1 0), (5, .v (.slice y31.2.1 t28.2.2.length y31.2.2)), (4, vi t28.2.1), (3, .p 0 0)]) (fun s50 y51 => [(38, (eCase t28.1 y31.1)), (41, (eOffice (Office.mk (Case.mk (Book.mk s50.2.2.1) (Store.mk s50.2.2.2.1) (Series.mk s50.2.2.2.2.1) (Member.mk s50.2.2.2.2.2.1 s50.2.2.2.2.2.2.1 s50.2.2.2.2.2.2.2.1 s50.2.2.2.2.2.2.2.2.1)) s50.2.2.2.2.2.2.2.2.2.1 s50.2.2.2.2.2.2.2.2.2.2) y51.2))]) (fun s50 y51 => [SlRes 3 s50.2.1 y51.1.1 y51.1.2, SlRes 66 t28.2.2 y31.2.1 y31.2.2, SlRes 76 t28.1.Book.Rules y31.1.1.1 y31.1.1.2, SlRes 47 t28.1.Store.Facts y31.1.2.1.1 y31.1.2.1.2, SlRes 52 t28.1.Series.Points y31.1.2.2.1.1 y31.1.2.2.1.2, SlRes 156 t28.1.Member.Spells y31.1.2.2.2.1.1 y31.1.2.2.2.1.2, SlRes 158 t28.1.Member.Events y31.1.2.2.2.2.1 y31.1.2.2.2.2.2, SlRes 76 s50.2.2.1 y51.2.1.1 y51.2.1.2, SlRes 47 s50.2.2.2.1 y51.2.2.1.1 y51.2.2.1.2, SlRes 52 s50.2.2.2.2.1 y51.2.2.2.1.1 y51.2.2.2.1.2, SlRes 156 s50.2.2.2.2.2.2.2.1 y51.2.2.2.2.1.1 y51.2.2.2.2.1.2, SlRes 158 s50.2.2.2.2.2.2.2.2.1 y51.2.2.2.2.2.1.1 y51.2.2.2.2.2.1.2, SlRes 3 s50.2.2.2.2.2.2.2.2.2.2 y51.2.2.2.2.2.2.1 y51.2.2.2.2.2.2.2]) ((y49.2.1, y49.2.2), (y49.1.1.1, y49.1.1.2), (y49.1.2.1.1, y49.1.2.1.2), (y49.1.2.2.1.1, y49.1.2.2.1.2), (y49.1.2.2.2.1.1, y49.1.2.2.2.1.2), (y49.1.2.2.2.2.1.1, y49.1.2.2.2.2.1.2), (y49.1.2.2.2.2.2.1, y49.1.2.2.2.2.2.2)) [10, 9, 8, 5, 4, 3] [6, 12, 7, 7, 7, 7, 7, 0, 0, 0, 0, 0, 0] 2 (fun s50 y51 t52 h58 hd59 => ?_))
   refine qs (qs (qr (oN 4 [(45, vb (decide (s50.1 < (t28.2.2.length : Int))))] [10, 9, 8, 5, 4, 3] ?_)))
   refine oe (nt (cC h58 (fun h82 => ?_) (fun h83 => ?_)))
   · refine qk (nt (qs (qb (qs ?_))))
     obtain ⟨x84, hx85, h86⟩ := bS h82
     obtain ⟨t87, h88, h89⟩ := bS h86
     refine JC_cut (τ := (AC × AC × AC × AC × AC × AC)) (fun y91 => [(12, vi t87.2), (11, .p 2 0), (10, vi s50.1), (9, .v (.slice y51.1.1 s50.2.1.length y51.1.2)), (8, .p 1 0), (5, .v (.slice y31.2.1 t28.2.2.length y31.2.2)), (4, vi t28.2.1), (3, .p 0 0)]) (fun y91 => [(38, (eCase t28.1 y31.1)), (41, (eOffice (Office.mk (Case.mk (Book.mk s50.2.2.1) (Store.mk s50.2.2.2.1) (Series.mk s50.2.2.2.2.1) (Member.mk s50.2.2.2.2.2.1 s50.2.2.2.2.2.2.1 s50.2.2.2.2.2.2.2.1 s50.2.2.2.2.2.2.2.2.1)) s50.2.2.2.2.2.2.2.2.2.1 s50.2.2.2.2.2.2.2.2.2.2) y51.2)), (41, (eOffice t87.1 y91))]) (fun y91 => [SlRes 76 t87.1.Case.Book.Rules y91.1.1 y91.1.2, SlRes 47 t87.1.Case.Store.Facts y91.2.1.1 y91.2.1.2, SlRes 52 t87.1.Case.Series.Points y91.2.2.1.1 y91.2.2.1.2, SlRes 156 t87.1.Case.Member.Spells y91.2.2.2.1.1 y91.2.2.2.1.2, SlRes 158 t87.1.Case.Member.Events y91.2.2.2.2.1.1 y91.2.2.2.2.1.2, SlRes 3 t87.1.Paid y91.2.2.2.2.2.1 y91.2.2.2.2.2.2, SlRes 3 s50.2.1 y51.1.1 y51.1.2, SlRes 66 t28.2.2 y31.2.1 y31.2.2, SlRes 76 t28.1.Book.Rules y31.1.1.1 y31.1.1.2, SlRes 47 t28.1.Store.Facts y31.1.2.1.1 y31.1.2.1.2, SlRes 52 t28.1.Series.Points y31.1.2.2.1.1 y31.1.2.2.1.2, SlRes 156 t28.1.Member.Spells y31.1.2.2.2.1.1 y31.1.2.2.2.1.2, SlRes 158 t28.1.Member.Events y31.1.2.2.2.2.1 y31.1.2.2.2.2.2, SlRes 76 s50.2.2.1 y51.2.1.1 y51.2.1.2, SlRes 47 s50.2.2.2.1 y51.2.2.1.1 y51.2.2.1.2, SlRes 52 s50.2.2.2.2.1 y51.2.2.2.1.1 y51.2.2.2.1.2, SlRes 156 s50.2.2.2.2.2.2.2.1 y51.2.2.2.2.1.1 y51.2.2.2.2.1.2, SlRes 158 s50.2.2.2.2.2.2.2.2.1 y51.2.2.2.2.2.1.1 y51.2.2.2.2.2.1.2, SlRes 3 s50.2.2.2.2.2.2.2.2.2.2 y51.2.2.2.2.2.2.1 y51.2.2.2.2.2.2.2]) ?_ (fun y91 => ?_)
     · refine JC_weak [10, 9, 8, 5, 4, 3] [0, 0, 0, 0, 0, 0, 0, 0, 0, 0, 0, 0, 0] 2 (sl' := [(10, vi s50.1), (9, .v (.slice y51.1.1 s50.2.1.length y51.1.2)), (8, .p 1 0), (5, .v (.slice y31.2.1 t28.2.2.length y31.2.2)), (4, vi t28.2.1), (3, .p 0 0)]) (bx' := [(38, (eCase t28.1 y31.1)), (41, (eOffice (Office.mk (Case.mk (Book.mk s50.2.2.1) (Store.mk s50.2.2.2.1) (Series.mk s50.2.2.2.2.1) (Member.mk s50.2.2.2.2.2.1 s50.2.2.2.2.2.2.1 s50.2.2.2.2.2.2.2.1 s50.2.2.2.2.2.2.2.2.1)) s50.2.2.2.2.2.2.2.2.2.1 s50.2.2.2.2.2.2.2.2.2.2) y51.2))]) (R' := [SlRes 3 s50.2.1 y51.1.1 y51.1.2, SlRes 66 t28.2.2 y31.2.1 y31.2.2, SlRes 76 t28.1.Book.Rules y31.1.1.1 y31.1.1.2, SlRes 47 t28.1.Store.Facts y31.1.2.1.1 y31.1.2.1.2, SlRes 52 t28.1.Series.Points y31.1.2.2.1.1 y31.1.2.2.1.2, SlRes 156 t28.1.Member.Spells y31.1.2.2.2.1.1 y31.1.2.2.2.1.2, SlRes 158 t28.1.Member.Events y31.1.2.2.2.2.1 y31.1.2.2.2.2.2, SlRes 76 s50.2.2.1 y51.2.1.1 y51.2.1.2, SlRes 47 s50.2.2.2.1 y51.2.2.1.1 y51.2.2.1.2, SlRes 52 s50.2.2.2.2.1 y51.2.2.2.1.1 y51.2.2.2.1.2, SlRes 156 s50.2.2.2.2.2.2.2.1 y51.2.2.2.2.1.1 y51.2.2.2.2.1.2, SlRes 158 s50.2.2.2.2.2.2.2.2.1 y51.2.2.2.2.2.1.1 y51.2.2.2.2.2.1.2, SlRes 3 s50.2.2.2.2.2.2.2.2.2.2 y51.2.2.2.2.2.2.1 y51.2.2.2.2.2.2.2]) (by kernel_rfl) (by kernel_rfl) (by kernel_rfl) (by kernel_rfl) ?_
       refine JC_heldN (ks := [0, 1]) (Rk := [SlRes 3 s50.2.1 y51.1.1 y51.1.2, SlRes 66 t28.2.2 y31.2.1 y31.2.2, SlRes 76 t28.1.Book.Rules y31.1.1.1 y31.1.1.2, SlRes 47 t28.1.Store.Facts y31.1.2.1.1 y31.1.2.1.2, SlRes 52 t28.1.Series.Points y31.1.2.2.1.1 y31.1.2.2.1.2, SlRes 156 t28.1.Member.Spells y31.1.2.2.2.1.1 y31.1.2.2.2.1.2, SlRes 158 t28.1.Member.Events y31.1.2.2.2.2.1 y31.1.2.2.2.2.2, SlRes 76 s50.2.2.1 y51.2.1.1 y51.2.1.2, SlRes 47 s50.2.2.2.1 y51.2.2.1.1 y51.2.2.1.2, SlRes 52 s50.2.2.2.2.1 y51.2.2.2.1.1 y51.2.2.2.1.2, SlRes 156 s50.2.2.2.2.2.2.2.1 y51.2.2.2.2.1.1 y51.2.2.2.2.1.2, SlRes 158 s50.2.2.2.2.2.2.2.2.1 y51.2.2.2.2.2.1.1 y51.2.2.2.2.2.1.2, SlRes 3 s50.2.2.2.2.2.2.2.2.2.2 y51.2.2.2.2.2.2.1 y51.2.2.2.2.2.2.2]) 12 (by kernel_rfl) (by kernel_rfl) ?_
       refine htq 0 (.v (vOffice (Office.mk (Case.mk (Book.mk s50.2.2.1) (Store.mk s50.2.2.2.1) (Series.mk s50.2.2.2.2.1) (Member.mk s50.2.2.2.2.2.1 s50.2.2.2.2.2.2.1 s50.2.2.2.2.2.2.2.1 s50.2.2.2.2.2.2.2.2.1)) s50.2.2.2.2.2.2.2.2.2.1 s50.2.2.2.2.2.2.2.2.2.2) y51.2)) [0, 0, 0, 0, 0, 0, 0, 0, 0, 0, 0, 0, 0] ?_
       refine htq 1 (.v (.slice y31.2.1 t28.2.2.length y31.2.2)) [0, 0, 0, 0, 0, 0, 0, 0, 0, 0, 0, 0, 0] ?_
       refine htq 2 (vi s50.1) [0, 0, 0, 0, 0, 0, 0, 0, 0, 0, 0, 0, 0] ?_
       refine ht 3 (.q y31.2.1 (Int.toNat s50.1 * 10)) [0, 0, 0, 0, 0, 0, 0, 0, 0, 0, 0, 0, 0] (index_held (d := y31.2.1) (m := t28.2.2.length) (j := s50.1) (s := 10) (by kernel_rfl) (fun γ0 w hs => (hs.view 1 rfl)) rfl hx85) ?_
       refine hk [52, 49, 10, 9, 8, 5, 4, 3] ?_
       refine ht 4 (.v (vAct x84)) [0, 0, 0, 0, 0, 0, 0, 0, 0, 0, 0, 0, 0] (loadq_held (t := 66) (d := y31.2.1) (Int.toNat s50.1 * 10) 0 (by kernel_rfl) (cs := (eAct x84)) (v := vAct x84) (fun γ0 w hs => (hs.view 1 rfl).flatq hx85) (by kernel_rfl)) ?_
       refine hk [53, 49, 10, 9, 8, 5, 4, 3] ?_
       refine ha2 5 9 ?_ ?_
       · refine hi (fun γ0 δ hm => ?_)
         refine g1 (fun w hs => c_impl_DoAct (b0 := y51.2) h88 (hs.view 7 rfl) (hs.view 8 rfl) (hs.view 9 rfl) (hs.view 10 rfl) (hs.view 11 rfl) (hs.view 12 rfl)) (fun y90 => ?_)
         refine gn hm [54, 10, 9, 8, 5, 4, 3] [6, 6, 6, 6, 6, 6, 6, 6, 6, 6, 6, 6, 6] ?_
         refine htq 6 (.v (.tuple #[vOffice t87.1 y90, .int .i64 t87.2])) [6, 6, 6, 6, 6, 6, 6, 6, 6, 6, 6, 6, 6] ?_
         refine hk [48, 10, 9, 8, 5, 4, 3] ?_
         refine htq 7 (.v (vOffice t87.1 y90)) [6, 6, 6, 6, 6, 6, 6, 6, 6, 6, 6, 6, 6] ?_
         refine htq 8 (vi t87.2) [6, 6, 6, 6, 6, 6, 6, 6, 6, 6, 6, 6, 6] ?_
         refine hk [56, 55, 10, 9, 8, 5, 4, 3] ?_
         refine ha1 9 ?_
         refine hi (fun γ0 δ hm => ?_)
         refine gs [(11, .p 2 0), (56, vi t87.2), (55, .v (vOffice t87.1 y90)), (10, vi s50.1), (9, .v (.slice y51.1.1 s50.2.1.length y51.1.2)), (8, .p 1 0), (5, .v (.slice y31.2.1 t28.2.2.length y31.2.2)), (4, vi t28.2.1), (3, .p 0 0)] [(38, (eCase t28.1 y31.1)), (41, (eOffice (Office.mk (Case.mk (Book.mk s50.2.2.1) (Store.mk s50.2.2.2.1) (Series.mk s50.2.2.2.2.1) (Member.mk s50.2.2.2.2.2.1 s50.2.2.2.2.2.2.1 s50.2.2.2.2.2.2.2.1 s50.2.2.2.2.2.2.2.2.1)) s50.2.2.2.2.2.2.2.2.2.1 s50.2.2.2.2.2.2.2.2.2.2) y51.2)), (41, [.slice none 0 0, .slice none 0 0, .slice none 0 0, .int .i64 0, .int .i64 0, .slice none 0 0, .slice none 0 0, .int .i64 0, .slice none 0 0])] (fun δ2 => ?_)
         refine gd hm [11, 56, 55, 10, 9, 8, 5, 4, 3] [6, 6, 6, 6, 6, 6, 6, 6, 6, 6, 6, 6, 6] ?_
         refine ha1 10 ?_
         refine hi (fun γ0 δ hm => ?_)
         refine gs [(11, .p 2 0), (56, vi t87.2), (55, .v (vOffice t87.1 y90)), (10, vi s50.1), (9, .v (.slice y51.1.1 s50.2.1.length y51.1.2)), (8, .p 1 0), (5, .v (.slice y31.2.1 t28.2.2.length y31.2.2)), (4, vi t28.2.1), (3, .p 0 0)] [(38, (eCase t28.1 y31.1)), (41, (eOffice (Office.mk (Case.mk (Book.mk s50.2.2.1) (Store.mk s50.2.2.2.1) (Series.mk s50.2.2.2.2.1) (Member.mk s50.2.2.2.2.2.1 s50.2.2.2.2.2.2.1 s50.2.2.2.2.2.2.2.1 s50.2.2.2.2.2.2.2.2.1)) s50.2.2.2.2.2.2.2.2.2.1 s50.2.2.2.2.2.2.2.2.2.2) y51.2)), (41, (eOffice t87.1 y90))] (fun δ2 => ?_)
         refine gd hm [11, 56, 10, 9, 8, 5, 4, 3] [6, 6, 6, 6, 6, 6, 6, 6, 6, 6, 6, 6, 6] ?_
         refine htq 11 (vi t87.2) [6, 6, 6, 6, 6, 6, 6, 6, 6, 6, 6, 6, 6] ?_
         refine hk [12, 11, 10, 9, 8, 5, 4, 3] ?_
         exact hd y90 [12, 11, 10, 9, 8, 5, 4, 3] [0, 0, 0, 0, 0, 0, 0, 0, 0, 0, 0, 0, 0, 0, 0, 0, 0, 0, 0] 3
       · refine hi (fun γ0 δ hm => ?_)
         refine gs [(11, .p 2 0), (53, .v (vAct x84)), (49, .v (vOffice (Office.mk (Case.mk (Book.mk s50.2.2.1) (Store.mk s50.2.2.2.1) (Series.mk s50.2.2.2.2.1) (Member.mk s50.2.2.2.2.2.1 s50.2.2.2.2.2.2.1 s50.2.2.2.2.2.2.2.1 s50.2.2.2.2.2.2.2.2.1)) s50.2.2.2.2.2.2.2.2.2.1 s50.2.2.2.2.2.2.2.2.2.2) y51.2)), (10, vi s50.1), (9, .v (.slice y51.1.1 s50.2.1.length y51.1.2)), (8, .p 1 0), (5, .v (.slice y31.2.1 t28.2.2.length y31.2.2)), (4, vi t28.2.1), (3, .p 0 0)] [(38, (eCase t28.1 y31.1)), (41, (eOffice (Office.mk (Case.mk (Book.mk s50.2.2.1) (Store.mk s50.2.2.2.1) (Series.mk s50.2.2.2.2.1) (Member.mk s50.2.2.2.2.2.1 s50.2.2.2.2.2.2.1 s50.2.2.2.2.2.2.2.1 s50.2.2.2.2.2.2.2.2.1)) s50.2.2.2.2.2.2.2.2.2.1 s50.2.2.2.2.2.2.2.2.2.2) y51.2)), (41, [.slice none 0 0, .slice none 0 0, .slice none 0 0, .int .i64 0, .int .i64 0, .slice none 0 0, .slice none 0 0, .int .i64 0, .slice none 0 0])] (fun δ2 => ?_)
         refine gd hm [11, 53, 49, 10, 9, 8, 5, 4, 3] [0, 0, 0, 0, 0, 0, 0, 0, 0, 0, 0, 0, 0] ?_
         refine ha1 5 ?_
         refine hi (fun γ0 δ hm => ?_)
         refine g1 (fun w hs => c_impl_DoAct (b0 := y51.2) h88 (hs.view 7 rfl) (hs.view 8 rfl) (hs.view 9 rfl) (hs.view 10 rfl) (hs.view 11 rfl) (hs.view 12 rfl)) (fun y90 => ?_)
         refine gn hm [54, 11, 10, 9, 8, 5, 4, 3] [6, 6, 6, 6, 6, 6, 6, 6, 6, 6, 6, 6, 6] ?_
         refine htq 6 (.v (.tuple #[vOffice t87.1 y90, .int .i64 t87.2])) [6, 6, 6, 6, 6, 6, 6, 6, 6, 6, 6, 6, 6] ?_
         refine hk [48, 11, 10, 9, 8, 5, 4, 3] ?_
         refine htq 7 (.v (vOffice t87.1 y90)) [6, 6, 6, 6, 6, 6, 6, 6, 6, 6, 6, 6, 6] ?_
         refine htq 8 (vi t87.2) [6, 6, 6, 6, 6, 6, 6, 6, 6, 6, 6, 6, 6] ?_
         refine hk [56, 55, 11, 10, 9, 8, 5, 4, 3] ?_
         refine ha1 10 ?_
         refine hi (fun γ0 δ hm => ?_)
         refine gs [(56, vi t87.2), (55, .v (vOffice t87.1 y90)), (11, .p 2 0), (10, vi s50.1), (9, .v (.slice y51.1.1 s50.2.1.length y51.1.2)), (8, .p 1 0), (5, .v (.slice y31.2.1 t28.2.2.length y31.2.2)), (4, vi t28.2.1), (3, .p 0 0)] [(38, (eCase t28.1 y31.1)), (41, (eOffice (Office.mk (Case.mk (Book.mk s50.2.2.1) (Store.mk s50.2.2.2.1) (Series.mk s50.2.2.2.2.1) (Member.mk s50.2.2.2.2.2.1 s50.2.2.2.2.2.2.1 s50.2.2.2.2.2.2.2.1 s50.2.2.2.2.2.2.2.2.1)) s50.2.2.2.2.2.2.2.2.2.1 s50.2.2.2.2.2.2.2.2.2.2) y51.2)), (41, (eOffice t87.1 y90))] (fun δ2 => ?_)
         refine gd hm [56, 11, 10, 9, 8, 5, 4, 3] [6, 6, 6, 6, 6, 6, 6, 6, 6, 6, 6, 6, 6] ?_
         refine htq 11 (vi t87.2) [6, 6, 6, 6, 6, 6, 6, 6, 6, 6, 6, 6, 6] ?_
         refine hk [12, 11, 10, 9, 8, 5, 4, 3] ?_
         exact hd y90 [12, 11, 10, 9, 8, 5, 4, 3] [0, 0, 0, 0, 0, 0, 0, 0, 0, 0, 0, 0, 0, 0, 0, 0, 0, 0, 0] 3
     refine nt (qs (qr (oN 2 [(58, vi t87.2), (57, .v (.slice y51.1.1 s50.2.1.length y51.1.2))] [11, 10, 8, 5, 4, 3] ?_)))
     refine ob [] [SlRes 76 t87.1.Case.Book.Rules y91.1.1 y91.1.2, SlRes 47 t87.1.Case.Store.Facts y91.2.1.1 y91.2.1.2, SlRes 52 t87.1.Case.Series.Points y91.2.2.1.1 y91.2.2.1.2, SlRes 156 t87.1.Case.Member.Spells y91.2.2.2.1.1 y91.2.2.2.1.2, SlRes 158 t87.1.Case.Member.Events y91.2.2.2.2.1.1 y91.2.2.2.2.1.2, SlRes 3 t87.1.Paid y91.2.2.2.2.2.1 y91.2.2.2.2.2.2, SlRes 3 s50.2.1 y51.1.1 y51.1.2, SlRes 66 t28.2.2 y31.2.1 y31.2.2, SlRes 76 t28.1.Book.Rules y31.1.1.1 y31.1.1.2, SlRes 47 t28.1.Store.Facts y31.1.2.1.1 y31.1.2.1.2, SlRes 52 t28.1.Series.Points y31.1.2.2.1.1 y31.1.2.2.1.2, SlRes 156 t28.1.Member.Spells y31.1.2.2.2.1.1 y31.1.2.2.2.1.2, SlRes 158 t28.1.Member.Events y31.1.2.2.2.2.1 y31.1.2.2.2.2.2, SlRes 76 s50.2.2.1 y51.2.1.1 y51.2.1.2, SlRes 47 s50.2.2.2.1 y51.2.2.1.1 y51.2.2.1.2, SlRes 52 s50.2.2.2.2.1 y51.2.2.2.1.1 y51.2.2.2.1.2, SlRes 156 s50.2.2.2.2.2.2.2.1 y51.2.2.2.2.1.1 y51.2.2.2.2.1.2, SlRes 158 s50.2.2.2.2.2.2.2.2.1 y51.2.2.2.2.2.1.1 y51.2.2.2.2.2.1.2, SlRes 3 s50.2.2.2.2.2.2.2.2.2.2 y51.2.2.2.2.2.2.1 y51.2.2.2.2.2.2.2] 3 1 [.int .i64 t87.2] ([t87.2] : List Int) (own_flat (by kernel_rfl)) (fun y92 => ?_)
     refine JO_res (R' := [SlRes 3 s50.2.1 y51.1.1 y51.1.2, SlRes 3 ([t87.2] : List Int) y92.1 y92.2, SlRes 76 t87.1.Case.Book.Rules y91.1.1 y91.1.2, SlRes 47 t87.1.Case.Store.Facts y91.2.1.1 y91.2.1.2, SlRes 52 t87.1.Case.Series.Points y91.2.2.1.1 y91.2.2.1.2, SlRes 156 t87.1.Case.Member.Spells y91.2.2.2.1.1 y91.2.2.2.1.2, SlRes 158 t87.1.Case.Member.Events y91.2.2.2.2.1.1 y91.2.2.2.2.1.2, SlRes 3 t87.1.Paid y91.2.2.2.2.2.1 y91.2.2.2.2.2.2, SlRes 66 t28.2.2 y31.2.1 y31.2.2, SlRes 76 t28.1.Book.Rules y31.1.1.1 y31.1.1.2, SlRes 47 t28.1.Store.Facts y31.1.2.1.1 y31.1.2.1.2, SlRes 52 t28.1.Series.Points y31.1.2.2.1.1 y31.1.2.2.1.2, SlRes 156 t28.1.Member.Spells y31.1.2.2.2.1.1 y31.1.2.2.2.1.2, SlRes 158 t28.1.Member.Events y31.1.2.2.2.2.1 y31.1.2.2.2.2.2, SlRes 76 s50.2.2.1 y51.2.1.1 y51.2.1.2, SlRes 47 s50.2.2.2.1 y51.2.2.1.1 y51.2.2.1.2, SlRes 52 s50.2.2.2.2.1 y51.2.2.2.1.1 y51.2.2.2.1.2, SlRes 156 s50.2.2.2.2.2.2.2.1 y51.2.2.2.2.1.1 y51.2.2.2.2.1.2, SlRes 158 s50.2.2.2.2.2.2.2.2.1 y51.2.2.2.2.2.1.1 y51.2.2.2.2.2.1.2, SlRes 3 s50.2.2.2.2.2.2.2.2.2.2 y51.2.2.2.2.2.2.1 y51.2.2.2.2.2.2.2]) [7, 0, 0, 0, 0, 0, 0, 0, 0, 0, 0, 0, 0, 0, 0, 0, 0, 0, 0, 0] (by kernel_rfl) ?_
     obtain ⟨l95, hm96, h97⟩ := bS h89
     refine oa 39 y92.2 Tryz.t3 (.int .i64 0) (fun γ w hs => ⟨y92.2, (hs.view 1 rfl)⟩) hm96 (fun y94 => ?_)
     refine oN 1 [(9, .v (.slice y94.1 l95.length y94.2))] [11, 10, 8, 5, 4, 3] ?_
     refine oe (nt (qr (oB 2 [] [9, 10, 8, 5, 4, 3] [(38, (eCase t28.1 y31.1)), (41, (eOffice t87.1 y91)), (41, (eOffice t87.1 y91))] ?_)))
     refine oe (bn (nt (qr (oN 3 [(10, vi (w64 (s50.1 + 1)))] [9, 8, 5, 4, 3] ?_))))
     exact oe (ct h97 ((y94.1, y94.2), (y91.1.1, y91.1.2), (y91.2.1.1, y91.2.1.2), (y91.2.2.1.1, y91.2.2.1.2), (y91.2.2.2.1.1, y91.2.2.2.1.2), (y91.2.2.2.2.1.1, y91.2.2.2.2.1.2), (y91.2.2.2.2.2.1, y91.2.2.2.2.2.2)) [10, 9, 8, 5, 4, 3] [0, 7, 7, 7, 7, 7, 7, 1, 1, 1, 1, 1, 1] 2)
   refine qx (nx (nx (bh ?_)))
   have h98 := leafB hd59 h83 h55
   exact mp ((s50.2.1, t28.2.1, t28.1.Member.Birth, t28.1.Member.Joined, s50.2.2.1, s50.2.2.2.1, s50.2.2.2.2.1, s50.2.2.2.2.2.1, s50.2.2.2.2.2.2.1, s50.2.2.2.2.2.2.2.1, s50.2.2.2.2.2.2.2.2.1, s50.2.2.2.2.2.2.2.2.2.1, s50.2.2.2.2.2.2.2.2.2.2), ((y51.1.1, y51.1.2), (y51.2.1.1, y51.2.1.2), (y51.2.2.1.1, y51.2.2.1.2), (y51.2.2.2.1.1, y51.2.2.2.1.2), (y51.2.2.2.2.1.1, y51.2.2.2.2.1.2), (y51.2.2.2.2.2.1.1, y51.2.2.2.2.2.1.2), (y51.2.2.2.2.2.2.1, y51.2.2.2.2.2.2.2))) h98 [9, 8, 5, 4, 3] [0, 0, 0, 0, 0, 0, 0, 0, 0, 0, 0, 0, 0] 2
 have h62 := (congrFun hk57 _).symm.trans h62p
 refine nt (qs (qr (oN 3 [(65, .v (.slice y31.2.1 t28.2.2.length y31.2.2)), (64, vi y61.1.2.1), (63, .v (vCase (Case.mk t28.1.Book t28.1.Store t28.1.Series (Member.mk y61.1.2.2.1 y61.1.2.2.2.1 t28.1.Member.Spells t28.1.Member.Events)) y31.1))] [9, 8] ?_)))
 obtain ⟨t63, h64, h65⟩ := bS h62
 refine k1 (fun γ w hs => c_impl_RunActs (b0 := y31.1) h64 (hs.view 2 rfl) (hs.view 3 rfl) (hs.view 4 rfl) (hs.view 5 rfl) (hs.view 6 rfl) (hs.view 1 rfl)) (fun y66 => ?_)
 refine oB 6 [(14, .v (.slice y66.2.1 t63.2.length y66.2.2)), (13, .p 2 0)] [9, 8] [(38, (eCase (Case.mk t28.1.Book t28.1.Store t28.1.Series (Member.mk y61.1.2.2.1 y61.1.2.2.2.1 t28.1.Member.Spells t28.1.Member.Events)) y31.1)), (41, (eOffice (Office.mk (Case.mk (Book.mk y61.1.2.2.2.2.1) (Store.mk y61.1.2.2.2.2.2.1) (Series.mk y61.1.2.2.2.2.2.2.1) (Member.mk y61.1.2.2.2.2.2.2.2.1 y61.1.2.2.2.2.2.2.2.2.1 y61.1.2.2.2.2.2.2.2.2.2.1 y61.1.2.2.2.2.2.2.2.2.2.2.1)) y61.1.2.2.2.2.2.2.2.2.2.2.2.1 y61.1.2.2.2.2.2.2.2.2.2.2.2.2) y61.2.2)), (41, (eOffice t63.1 y66.1))] ?_
 refine oe (nt (qs ?_))
 obtain ⟨p67, hE68, h69⟩ := bS h65
 refine JC_cut (τ := Unit) (fun _ => [(2, vb p67)]) (fun _ => [(38, (eCase (Case.mk t28.1.Book t28.1.Store t28.1.Series (Member.mk y61.1.2.2.1 y61.1.2.2.2.1 t28.1.Member.Spells t28.1.Member.Events)) y31.1)), (41, (eOffice (Office.mk (Case.mk (Book.mk y61.1.2.2.2.2.1) (Store.mk y61.1.2.2.2.2.2.1) (Series.mk y61.1.2.2.2.2.2.2.1) (Member.mk y61.1.2.2.2.2.2.2.2.1 y61.1.2.2.2.2.2.2.2.2.1 y61.1.2.2.2.2.2.2.2.2.2.1 y61.1.2.2.2.2.2.2.2.2.2.2.1)) y61.1.2.2.2.2.2.2.2.2.2.2.2.1 y61.1.2.2.2.2.2.2.2.2.2.2.2.2) y61.2.2)), (41, (eOffice t63.1 y66.1))]) (fun _ => [SlRes 76 t28.1.Book.Rules y31.1.1.1 y31.1.1.2, SlRes 47 t28.1.Store.Facts y31.1.2.1.1 y31.1.2.1.2, SlRes 52 t28.1.Series.Points y31.1.2.2.1.1 y31.1.2.2.1.2, SlRes 156 t28.1.Member.Spells y31.1.2.2.2.1.1 y31.1.2.2.2.1.2, SlRes 158 t28.1.Member.Events y31.1.2.2.2.2.1 y31.1.2.2.2.2.2, SlRes 76 y61.1.2.2.2.2.1 y61.2.2.1.1 y61.2.2.1.2, SlRes 47 y61.1.2.2.2.2.2.1 y61.2.2.2.1.1 y61.2.2.2.1.2, SlRes 52 y61.1.2.2.2.2.2.2.1 y61.2.2.2.2.1.1 y61.2.2.2.2.1.2, SlRes 156 y61.1.2.2.2.2.2.2.2.2.2.1 y61.2.2.2.2.2.1.1 y61.2.2.2.2.2.1.2, SlRes 158 y61.1.2.2.2.2.2.2.2.2.2.2.1 y61.2.2.2.2.2.2.1.1 y61.2.2.2.2.2.2.1.2, SlRes 3 y61.1.2.2.2.2.2.2.2.2.2.2.2.2 y61.2.2.2.2.2.2.2.1 y61.2.2.2.2.2.2.2.2, SlRes 76 t63.1.Case.Book.Rules y66.1.1.1 y66.1.1.2, SlRes 47 t63.1.Case.Store.Facts y66.1.2.1.1 y66.1.2.1.2, SlRes 52 t63.1.Case.Series.Points y66.1.2.2.1.1 y66.1.2.2.1.2, SlRes 156 t63.1.Case.Member.Spells y66.1.2.2.2.1.1 y66.1.2.2.2.1.2, SlRes 158 t63.1.Case.Member.Events y66.1.2.2.2.2.1.1 y66.1.2.2.2.2.1.2, SlRes 3 t63.1.Paid y66.1.2.2.2.2.2.1 y66.1.2.2.2.2.2.2]) ?_ (fun _ => ?_)
 · refine qr (oN 2 [(70, .v (.slice y66.2.1 t63.2.length y66.2.2)), (69, .v (.slice y61.2.1.1 y61.1.1.length y61.2.1.2))] [13, 8] ?_)
   obtain ⟨t70, h71, h72⟩ := bS hE68
   refine k0 (fun γ w hs => c_laws_sameInts h71 (hs.view 7 rfl) (hs.view 6 rfl)) ?_
   refine oN 1 [(72, vb t70)] [13, 8] ?_
   refine oS 72 h72 (fun h75 => ?_) (fun h76 => ?_)
   · refine oN 2 [(74, .v (vOffice t63.1 y66.1)), (73, .v (vOffice (Office.mk (Case.mk (Book.mk y61.1.2.2.2.2.1) (Store.mk y61.1.2.2.2.2.2.1) (Series.mk y61.1.2.2.2.2.2.2.1) (Member.mk y61.1.2.2.2.2.2.2.2.1 y61.1.2.2.2.2.2.2.2.2.1 y61.1.2.2.2.2.2.2.2.2.2.1 y61.1.2.2.2.2.2.2.2.2.2.2.1)) y61.1.2.2.2.2.2.2.2.2.2.2.2.1 y61.1.2.2.2.2.2.2.2.2.2.2.2.2) y61.2.2))] [72] ?_
     obtain ⟨t77, h78, h79⟩ := bS h75
     refine k0 (fun γ w hs => c_spec_SameOffice (b0 := y61.2.2) (b1 := y66.1) h78 (hs.view 14 rfl) (hs.view 15 rfl) (hs.view 16 rfl) (hs.view 17 rfl) (hs.view 18 rfl) (hs.view 19 rfl) (hs.view 0 rfl) (hs.view 1 rfl) (hs.view 2 rfl) (hs.view 3 rfl) (hs.view 4 rfl) (hs.view 5 rfl)) ?_
     refine oN 2 [(2, vb t77)] [] ?_
     refine oe ?_
     obtain rfl := sI h79
     exact mt () [2] [9, 9, 9, 9, 9, 9, 9, 9, 9, 9, 9, 0, 0, 0, 0, 0, 0] 3
   refine oN 5 [(2, vb false)] [] ?_
   refine oe ?_
   obtain rfl := sI h76
   exact mt () [2] [9, 9, 9, 9, 9, 9, 9, 9, 9, 9, 9, 0, 0, 0, 0, 0, 0] 3
 refine nt (qe ?_)
 obtain rfl := sI h69
 exact re [.bool p67]
end Go.Pen
