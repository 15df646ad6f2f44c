/-
  Each Go function does what its plain function says: written by a program of ours.
-/
import Derived.Test.YtagenkhjchiigaaGreatW3
import Derived.Test.YtagenkhjchiigaaGreatProg
import Derived.Test.YtagenkhjchiigaaGreatPenK
import Derived.Test.YtagenkhjchiigaaGreatPenJ
import Derived.Test.YtagenkhjchiigaaGreatPenP
import Derived.Test.YtagenkhjchiigaaGreatPenQ
import Derived.Test.YtagenkhjchiigaaGreatPenU
namespace Go.Pen
open Go.Proofs Go.RowKit
set_option linter.unusedVariables false
set_option linter.unusedSimpArgs false
set_option maxRecDepth 100000
set_option maxHeartbeats 4000000

theorem c_impl_AddFact {W : World} {x0 : Store} {a0_0 : Option Addr} {c0_0 : Nat} {x1 : Fact} {r : Store × Bool} (h : impl_AddFact x0 x1 = some r) (hv0_0 : SlView W x0.Facts a0_0 c0_0) :
    Gives Tryz.prog 53 #[vStore x0 (a0_0, c0_0), vFact x1] W (fun y : AC => .tuple #[vStore r.1 y, .bool r.2]) (fun y => [SlRes 47 r.1.Facts y.1 y.2]) := by
 unfold impl_AddFact at h
 refine en Tryz.func53 Tryz.ntmps53 ?_
 refine qs (qr (oB 4 [(4, .p 2 0), (3, .p 1 0), (2, .p 0 0)] [] [(29, (eStore x0 (a0_0, c0_0))), (47, (eFact x1)), (29, [.slice none 0 0])] ?_))
 refine oe (nt (qs ?_))
 obtain ⟨t21, h22, h23⟩ := bS h
 obtain ⟨l27, hm28, h29⟩ := bS h23
 refine JC_cut (τ := AC) (fun y30 => [(6, .p 3 0), (4, .p 2 0), (2, .p 0 0)]) (fun y30 => [(29, (eStore x0 (a0_0, c0_0))), (47, (eFact x1)), (29, [.slice none 0 0]), (29, (eStore (Store.mk l27) y30))]) (fun y30 => [SlRes 47 l27 y30.1 y30.2]) ?_ (fun y30 => ?_)
 · refine jw [4, 3, 2] [] ?_
   refine JC_heldN (ks := [0, 1, 2]) (Rk := []) 9 (by kernel_rfl) (by kernel_rfl) ?_
   refine htq 0 (.p 0 0) [] ?_
   refine htq 1 (.v (.slice a0_0 x0.Facts.length c0_0)) [] ?_
   refine hk [8, 4, 3, 2] ?_
   refine htq 3 (.v (vFact x1)) [] ?_
   refine hk [10, 8, 4, 2] ?_
   refine ha3 2 4 7 ?_ ?_ ?_
   · refine hi (fun γ0 δ hm => ?_)
     refine g1 (fun w hs => c_slices_Clone_Fact h22 (hv0_0.kept hs.kept)) (fun y24 => ?_)
     refine gn hm [9, 10, 4, 2] [] ?_
     refine ha2 4 7 ?_ ?_
     · refine hi (fun γ0 δ hm => ?_)
       refine gb [] [SlRes 47 t21 y24.1 y24.2] 47 1 [.int .i64 x1.Key, .int .i64 x1.From, .int .i64 x1.To, .int .i64 x1.Known, .int .i64 x1.Value] ([x1] : List Fact) (own_flat (by kernel_rfl)) (fun y25 => ?_)
       refine gn hm [11, 9, 4, 2] [] ?_
       refine ha2 5 7 ?_ ?_
       · refine hr_ [1, 0] ?_
         refine hi (fun γ0 δ hm => ?_)
         refine ga 27 y25.2 Tryz.t47 (vFact (Fact.mk 0 0 0 0 0)) (fun w hs => ⟨y25.2, (hs.view 1 rfl)⟩) hm28 (fun y26 => ?_)
         refine gn hm [12, 4, 2] [] ?_
         refine htq 6 (.v (vStore (Store.mk l27) y26)) [] ?_
         refine hk [13, 4, 2] ?_
         refine ha1 7 ?_
         refine hi (fun γ0 δ hm => ?_)
         refine gs [(6, .p 3 0), (13, .v (vStore (Store.mk l27) y26)), (4, .p 2 0), (2, .p 0 0)] [(29, (eStore x0 (a0_0, c0_0))), (47, (eFact x1)), (29, [.slice none 0 0]), (29, [.slice none 0 0])] (fun δ2 => ?_)
         refine gd hm [6, 13, 4, 2] [] ?_
         refine ha1 8 ?_
         refine hi (fun γ0 δ hm => ?_)
         refine gs [(6, .p 3 0), (13, .v (vStore (Store.mk l27) y26)), (4, .p 2 0), (2, .p 0 0)] [(29, (eStore x0 (a0_0, c0_0))), (47, (eFact x1)), (29, [.slice none 0 0]), (29, (eStore (Store.mk l27) y26))] (fun δ2 => ?_)
         refine gd hm [6, 4, 2] [] ?_
         exact hd y26 [6, 4, 2] [0] 4
       · refine hi (fun γ0 δ hm => ?_)
         refine gs [(6, .p 3 0), (11, .v (.slice y25.1 ([x1] : List Fact).length y25.2)), (9, .v (.slice y24.1 t21.length y24.2)), (4, .p 2 0), (2, .p 0 0)] [(29, (eStore x0 (a0_0, c0_0))), (47, (eFact x1)), (29, [.slice none 0 0]), (29, [.slice none 0 0])] (fun δ2 => ?_)
         refine gd hm [6, 11, 9, 4, 2] [] ?_
         refine ha1 5 ?_
         refine hr_ [1, 0] ?_
         refine hi (fun γ0 δ hm => ?_)
         refine ga 27 y25.2 Tryz.t47 (vFact (Fact.mk 0 0 0 0 0)) (fun w hs => ⟨y25.2, (hs.view 1 rfl)⟩) hm28 (fun y26 => ?_)
         refine gn hm [12, 6, 4, 2] [] ?_
         refine htq 6 (.v (vStore (Store.mk l27) y26)) [] ?_
         refine hk [13, 6, 4, 2] ?_
         refine ha1 8 ?_
         refine hi (fun γ0 δ hm => ?_)
         refine gs [(13, .v (vStore (Store.mk l27) y26)), (6, .p 3 0), (4, .p 2 0), (2, .p 0 0)] [(29, (eStore x0 (a0_0, c0_0))), (47, (eFact x1)), (29, [.slice none 0 0]), (29, (eStore (Store.mk l27) y26))] (fun δ2 => ?_)
         refine gd hm [6, 4, 2] [] ?_
         exact hd y26 [6, 4, 2] [0] 4
     · refine hi (fun γ0 δ hm => ?_)
       refine gs [(6, .p 3 0), (9, .v (.slice y24.1 t21.length y24.2)), (10, .v (vFact x1)), (4, .p 2 0), (2, .p 0 0)] [(29, (eStore x0 (a0_0, c0_0))), (47, (eFact x1)), (29, [.slice none 0 0]), (29, [.slice none 0 0])] (fun δ2 => ?_)
       refine gd hm [6, 9, 10, 4, 2] [] ?_
       refine ha1 4 ?_
       refine hi (fun γ0 δ hm => ?_)
       refine gb [] [SlRes 47 t21 y24.1 y24.2] 47 1 [.int .i64 x1.Key, .int .i64 x1.From, .int .i64 x1.To, .int .i64 x1.Known, .int .i64 x1.Value] ([x1] : List Fact) (own_flat (by kernel_rfl)) (fun y25 => ?_)
       refine gn hm [11, 6, 9, 4, 2] [] ?_
       refine ha1 5 ?_
       refine hr_ [1, 0] ?_
       refine hi (fun γ0 δ hm => ?_)
       refine ga 27 y25.2 Tryz.t47 (vFact (Fact.mk 0 0 0 0 0)) (fun w hs => ⟨y25.2, (hs.view 1 rfl)⟩) hm28 (fun y26 => ?_)
       refine gn hm [12, 6, 4, 2] [] ?_
       refine htq 6 (.v (vStore (Store.mk l27) y26)) [] ?_
       refine hk [13, 6, 4, 2] ?_
       refine ha1 8 ?_
       refine hi (fun γ0 δ hm => ?_)
       refine gs [(13, .v (vStore (Store.mk l27) y26)), (6, .p 3 0), (4, .p 2 0), (2, .p 0 0)] [(29, (eStore x0 (a0_0, c0_0))), (47, (eFact x1)), (29, [.slice none 0 0]), (29, (eStore (Store.mk l27) y26))] (fun δ2 => ?_)
       refine gd hm [6, 4, 2] [] ?_
       exact hd y26 [6, 4, 2] [0] 4
   · refine hi (fun γ0 δ hm => ?_)
     refine gb [] [] 47 1 [.int .i64 x1.Key, .int .i64 x1.From, .int .i64 x1.To, .int .i64 x1.Known, .int .i64 x1.Value] ([x1] : List Fact) (own_flat (by kernel_rfl)) (fun y25 => ?_)
     refine gn hm [11, 8, 4, 2] [] ?_
     refine ha2 2 7 ?_ ?_
     · refine hi (fun γ0 δ hm => ?_)
       refine g1 (fun w hs => c_slices_Clone_Fact h22 (hv0_0.kept hs.kept)) (fun y24 => ?_)
       refine gn hm [9, 11, 4, 2] [] ?_
       refine ha2 5 7 ?_ ?_
       · refine hi (fun γ0 δ hm => ?_)
         refine ga 27 y25.2 Tryz.t47 (vFact (Fact.mk 0 0 0 0 0)) (fun w hs => ⟨y25.2, (hs.view 1 rfl)⟩) hm28 (fun y26 => ?_)
         refine gn hm [12, 4, 2] [] ?_
         refine htq 6 (.v (vStore (Store.mk l27) y26)) [] ?_
         refine hk [13, 4, 2] ?_
         refine ha1 7 ?_
         refine hi (fun γ0 δ hm => ?_)
         refine gs [(6, .p 3 0), (13, .v (vStore (Store.mk l27) y26)), (4, .p 2 0), (2, .p 0 0)] [(29, (eStore x0 (a0_0, c0_0))), (47, (eFact x1)), (29, [.slice none 0 0]), (29, [.slice none 0 0])] (fun δ2 => ?_)
         refine gd hm [6, 13, 4, 2] [] ?_
         refine ha1 8 ?_
         refine hi (fun γ0 δ hm => ?_)
         refine gs [(6, .p 3 0), (13, .v (vStore (Store.mk l27) y26)), (4, .p 2 0), (2, .p 0 0)] [(29, (eStore x0 (a0_0, c0_0))), (47, (eFact x1)), (29, [.slice none 0 0]), (29, (eStore (Store.mk l27) y26))] (fun δ2 => ?_)
         refine gd hm [6, 4, 2] [] ?_
         exact hd y26 [6, 4, 2] [0] 4
       · refine hi (fun γ0 δ hm => ?_)
         refine gs [(6, .p 3 0), (9, .v (.slice y24.1 t21.length y24.2)), (11, .v (.slice y25.1 ([x1] : List Fact).length y25.2)), (4, .p 2 0), (2, .p 0 0)] [(29, (eStore x0 (a0_0, c0_0))), (47, (eFact x1)), (29, [.slice none 0 0]), (29, [.slice none 0 0])] (fun δ2 => ?_)
         refine gd hm [6, 9, 11, 4, 2] [] ?_
         refine ha1 5 ?_
         refine hi (fun γ0 δ hm => ?_)
         refine ga 27 y25.2 Tryz.t47 (vFact (Fact.mk 0 0 0 0 0)) (fun w hs => ⟨y25.2, (hs.view 1 rfl)⟩) hm28 (fun y26 => ?_)
         refine gn hm [12, 6, 4, 2] [] ?_
         refine htq 6 (.v (vStore (Store.mk l27) y26)) [] ?_
         refine hk [13, 6, 4, 2] ?_
         refine ha1 8 ?_
         refine hi (fun γ0 δ hm => ?_)
         refine gs [(13, .v (vStore (Store.mk l27) y26)), (6, .p 3 0), (4, .p 2 0), (2, .p 0 0)] [(29, (eStore x0 (a0_0, c0_0))), (47, (eFact x1)), (29, [.slice none 0 0]), (29, (eStore (Store.mk l27) y26))] (fun δ2 => ?_)
         refine gd hm [6, 4, 2] [] ?_
         exact hd y26 [6, 4, 2] [0] 4
     · refine hi (fun γ0 δ hm => ?_)
       refine gs [(6, .p 3 0), (11, .v (.slice y25.1 ([x1] : List Fact).length y25.2)), (8, .v (.slice a0_0 x0.Facts.length c0_0)), (4, .p 2 0), (2, .p 0 0)] [(29, (eStore x0 (a0_0, c0_0))), (47, (eFact x1)), (29, [.slice none 0 0]), (29, [.slice none 0 0])] (fun δ2 => ?_)
       refine gd hm [6, 11, 8, 4, 2] [] ?_
       refine ha1 2 ?_
       refine hi (fun γ0 δ hm => ?_)
       refine g1 (fun w hs => c_slices_Clone_Fact h22 (hv0_0.kept hs.kept)) (fun y24 => ?_)
       refine gn hm [9, 6, 11, 4, 2] [] ?_
       refine ha1 5 ?_
       refine hi (fun γ0 δ hm => ?_)
       refine ga 27 y25.2 Tryz.t47 (vFact (Fact.mk 0 0 0 0 0)) (fun w hs => ⟨y25.2, (hs.view 1 rfl)⟩) hm28 (fun y26 => ?_)
       refine gn hm [12, 6, 4, 2] [] ?_
       refine htq 6 (.v (vStore (Store.mk l27) y26)) [] ?_
       refine hk [13, 6, 4, 2] ?_
       refine ha1 8 ?_
       refine hi (fun γ0 δ hm => ?_)
       refine gs [(13, .v (vStore (Store.mk l27) y26)), (6, .p 3 0), (4, .p 2 0), (2, .p 0 0)] [(29, (eStore x0 (a0_0, c0_0))), (47, (eFact x1)), (29, [.slice none 0 0]), (29, (eStore (Store.mk l27) y26))] (fun δ2 => ?_)
       refine gd hm [6, 4, 2] [] ?_
       exact hd y26 [6, 4, 2] [0] 4
   · refine hi (fun γ0 δ hm => ?_)
     refine gs [(6, .p 3 0), (10, .v (vFact x1)), (8, .v (.slice a0_0 x0.Facts.length c0_0)), (4, .p 2 0), (2, .p 0 0)] [(29, (eStore x0 (a0_0, c0_0))), (47, (eFact x1)), (29, [.slice none 0 0]), (29, [.slice none 0 0])] (fun δ2 => ?_)
     refine gd hm [6, 10, 8, 4, 2] [] ?_
     refine ha2 2 4 ?_ ?_
     · refine hi (fun γ0 δ hm => ?_)
       refine g1 (fun w hs => c_slices_Clone_Fact h22 (hv0_0.kept hs.kept)) (fun y24 => ?_)
       refine gn hm [9, 6, 10, 4, 2] [] ?_
       refine ha1 4 ?_
       refine hi (fun γ0 δ hm => ?_)
       refine gb [] [SlRes 47 t21 y24.1 y24.2] 47 1 [.int .i64 x1.Key, .int .i64 x1.From, .int .i64 x1.To, .int .i64 x1.Known, .int .i64 x1.Value] ([x1] : List Fact) (own_flat (by kernel_rfl)) (fun y25 => ?_)
       refine gn hm [11, 9, 6, 4, 2] [] ?_
       refine ha1 5 ?_
       refine hr_ [1, 0] ?_
       refine hi (fun γ0 δ hm => ?_)
       refine ga 27 y25.2 Tryz.t47 (vFact (Fact.mk 0 0 0 0 0)) (fun w hs => ⟨y25.2, (hs.view 1 rfl)⟩) hm28 (fun y26 => ?_)
       refine gn hm [12, 6, 4, 2] [] ?_
       refine htq 6 (.v (vStore (Store.mk l27) y26)) [] ?_
       refine hk [13, 6, 4, 2] ?_
       refine ha1 8 ?_
       refine hi (fun γ0 δ hm => ?_)
       refine gs [(13, .v (vStore (Store.mk l27) y26)), (6, .p 3 0), (4, .p 2 0), (2, .p 0 0)] [(29, (eStore x0 (a0_0, c0_0))), (47, (eFact x1)), (29, [.slice none 0 0]), (29, (eStore (Store.mk l27) y26))] (fun δ2 => ?_)
       refine gd hm [6, 4, 2] [] ?_
       exact hd y26 [6, 4, 2] [0] 4
     · refine hi (fun γ0 δ hm => ?_)
       refine gb [] [] 47 1 [.int .i64 x1.Key, .int .i64 x1.From, .int .i64 x1.To, .int .i64 x1.Known, .int .i64 x1.Value] ([x1] : List Fact) (own_flat (by kernel_rfl)) (fun y25 => ?_)
       refine gn hm [11, 6, 8, 4, 2] [] ?_
       refine ha1 2 ?_
       refine hi (fun γ0 δ hm => ?_)
       refine g1 (fun w hs => c_slices_Clone_Fact h22 (hv0_0.kept hs.kept)) (fun y24 => ?_)
       refine gn hm [9, 11, 6, 4, 2] [] ?_
       refine ha1 5 ?_
       refine hi (fun γ0 δ hm => ?_)
       refine ga 27 y25.2 Tryz.t47 (vFact (Fact.mk 0 0 0 0 0)) (fun w hs => ⟨y25.2, (hs.view 1 rfl)⟩) hm28 (fun y26 => ?_)
       refine gn hm [12, 6, 4, 2] [] ?_
       refine htq 6 (.v (vStore (Store.mk l27) y26)) [] ?_
       refine hk [13, 6, 4, 2] ?_
       refine ha1 8 ?_
       refine hi (fun γ0 δ hm => ?_)
       refine gs [(13, .v (vStore (Store.mk l27) y26)), (6, .p 3 0), (4, .p 2 0), (2, .p 0 0)] [(29, (eStore x0 (a0_0, c0_0))), (47, (eFact x1)), (29, [.slice none 0 0]), (29, (eStore (Store.mk l27) y26))] (fun δ2 => ?_)
       refine gd hm [6, 4, 2] [] ?_
       exact hd y26 [6, 4, 2] [0] 4
 refine nt (qs (qs ?_))
 obtain ⟨p31, hE32, h33⟩ := bS h29
 refine JC_cut (τ := Unit) (fun _ => [(2, .p 0 0), (4, .p 2 0), (6, .p 3 0), (21, vb p31)]) (fun _ => [(29, (eStore x0 (a0_0, c0_0))), (47, (eFact x1)), (29, [.slice none 0 0]), (29, (eStore (Store.mk l27) y30))]) (fun _ => [SlRes 47 l27 y30.1 y30.2]) ?_ (fun _ => ?_)
 · refine qr (oN 1 [(14, .v (vStore x0 (a0_0, c0_0)))] [6, 4, 2] ?_)
   obtain ⟨t34, h35, h36⟩ := bS hE32
   refine k0 (fun γ w hs => c_impl_StoreOk h35 (hv0_0.kept hs.kept)) ?_
   refine oN 2 [(17, vb (!t34))] [6, 4, 2] ?_
   refine oS 17 h36 (fun h39 => ?_) (fun h40 => ?_)
   · refine oN 4 [(21, vb true)] [6, 4, 2] ?_
     refine oe ?_
     obtain rfl := sI h39
     exact mt () [2, 4, 6, 21] [0] 4
   refine oN 1 [(18, .v (vStore (Store.mk l27) y30))] [17, 6, 4, 2] ?_
   obtain ⟨t41, h42, h43⟩ := bS h40
   refine k0 (fun γ w hs => c_impl_StoreOk h42 (hs.view 0 rfl)) ?_
   refine oN 2 [(21, vb (!t41))] [6, 4, 2] ?_
   refine oe ?_
   obtain rfl := sI h43
   exact mt () [2, 4, 6, 21] [0] 4
 refine nt (cC h33 (fun h50 => ?_) (fun h51 => ?_))
 · refine qs (qr (oN 1 [(22, .v (vStore x0 (a0_0, c0_0)))] [4] ?_))
   obtain ⟨t52, h53, h54⟩ := bS h50
   refine k1 (fun γ w hs => c_impl_copyStore h53 (hv0_0.kept hs.kept)) (fun y55 => ?_)
   refine oB 2 [(5, vb false)] [4] [(29, (eStore x0 (a0_0, c0_0))), (47, (eFact x1)), (29, (eStore t52 y55)), (29, (eStore (Store.mk l27) y30))] ?_
   refine oe (nt (qe (nr (rt [vStore t52 y55, .bool false] (fun γ w hs => ?_)))))
   rw [← sI h54]
   exact ⟨y55, rfl, hs.kept.toBelow, (hs.takeR (is := [0]) rfl).fresh⟩
 refine qk (nt (qs (qr (oB 3 [(5, vb true)] [4] [(29, (eStore x0 (a0_0, c0_0))), (47, (eFact x1)), (29, (eStore (Store.mk l27) y30)), (29, (eStore (Store.mk l27) y30))] ?_))))
 refine oe (nt (qe (rt [vStore (Store.mk l27) y30, .bool true] (fun γ w hs => ?_))))
 rw [← sI h51]
 exact ⟨y30, rfl, hs.kept.toBelow, (hs.takeR (is := [0]) rfl).fresh⟩

theorem c_impl_LearnFact {W : World} {x0 : Office} {b0 : AC × AC × AC × AC × AC × AC} {x1 : Fact} {r : Office × Bool} (h : impl_LearnFact x0 x1 = some r) (hv0_0 : SlView W x0.Case.Book.Rules b0.1.1 b0.1.2) (hv0_1 : SlView W x0.Case.Store.Facts b0.2.1.1 b0.2.1.2) (hv0_2 : SlView W x0.Case.Series.Points b0.2.2.1.1 b0.2.2.1.2) (hv0_3 : SlView W x0.Case.Member.Spells b0.2.2.2.1.1 b0.2.2.2.1.2) (hv0_4 : SlView W x0.Case.Member.Events b0.2.2.2.2.1.1 b0.2.2.2.2.1.2) (hv0_5 : SlView W x0.Paid b0.2.2.2.2.2.1 b0.2.2.2.2.2.2) :
    Gives Tryz.prog 15 #[vOffice x0 b0, vFact x1] W (fun y : AC × AC × AC × AC × AC × AC => .tuple #[vOffice r.1 y, .bool r.2]) (fun y => [SlRes 76 r.1.Case.Book.Rules y.1.1 y.1.2, SlRes 47 r.1.Case.Store.Facts y.2.1.1 y.2.1.2, SlRes 52 r.1.Case.Series.Points y.2.2.1.1 y.2.2.1.2, SlRes 156 r.1.Case.Member.Spells y.2.2.2.1.1 y.2.2.2.1.2, SlRes 158 r.1.Case.Member.Events y.2.2.2.2.1.1 y.2.2.2.2.1.2, SlRes 3 r.1.Paid y.2.2.2.2.2.1 y.2.2.2.2.2.2]) := by
 unfold impl_LearnFact at h
 refine en Tryz.func15 Tryz.ntmps15 ?_
 refine qs (qr (oB 4 [(4, .p 2 0), (3, .p 1 0), (2, .p 0 0)] [] [(41, (eOffice x0 b0)), (47, (eFact x1)), (41, [.slice none 0 0, .slice none 0 0, .slice none 0 0, .int .i64 0, .int .i64 0, .slice none 0 0, .slice none 0 0, .int .i64 0, .slice none 0 0])] ?_))
 refine oe (nt (qs (qr (oN 1 [(9, .v (vOffice x0 b0))] [4, 3, 2] ?_))))
 obtain ⟨t21, h22, h23⟩ := bS h
 refine k1 (fun γ w hs => c_impl_copyOffice (b0 := b0) h22 (hv0_0.kept hs.kept) (hv0_1.kept hs.kept) (hv0_2.kept hs.kept) (hv0_3.kept hs.kept) (hv0_4.kept hs.kept) (hv0_5.kept hs.kept)) (fun y24 => ?_)
 refine oB 2 [(6, .p 3 0)] [4, 3, 2] [(41, (eOffice x0 b0)), (47, (eFact x1)), (41, [.slice none 0 0, .slice none 0 0, .slice none 0 0, .int .i64 0, .int .i64 0, .slice none 0 0, .slice none 0 0, .int .i64 0, .slice none 0 0]), (41, (eOffice t21 y24))] ?_
 refine oe (nt (qs (qr (oN 1 [(11, .v (vOffice x0 b0))] [6, 4, 3, 2] ?_))))
 obtain ⟨t25, h26, h27⟩ := bS h23
 refine k0 (fun γ w hs => c_impl_now (b0 := b0) h26 (hv0_0.kept hs.kept) (hv0_1.kept hs.kept) (hv0_2.kept hs.kept) (hv0_3.kept hs.kept) (hv0_4.kept hs.kept) (hv0_5.kept hs.kept)) ?_
 refine oB 2 [] [6, 4, 3, 2] [(41, (eOffice x0 b0)), (47, (eFact (Fact.mk x1.Key x1.From x1.To t25 x1.Value))), (41, [.slice none 0 0, .slice none 0 0, .slice none 0 0, .int .i64 0, .int .i64 0, .slice none 0 0, .slice none 0 0, .int .i64 0, .slice none 0 0]), (41, (eOffice t21 y24))] ?_
 refine oe (nt (qs (qr (oN 4 [(18, .v (vFact (Fact.mk x1.Key x1.From x1.To t25 x1.Value))), (17, .v (vStore x0.Case.Store b0.2.1))] [6, 4, 2] ?_))))
 obtain ⟨t29, h30, h31⟩ := bS h27
 refine k1 (fun γ w hs => c_impl_AddFact h30 (hv0_1.kept hs.kept)) (fun y32 => ?_)
 refine oB 6 [(8, vb t29.2), (7, .p 4 0)] [6, 4, 2] [(41, (eOffice x0 b0)), (47, (eFact (Fact.mk x1.Key x1.From x1.To t25 x1.Value))), (41, [.slice none 0 0, .slice none 0 0, .slice none 0 0, .int .i64 0, .int .i64 0, .slice none 0 0, .slice none 0 0, .int .i64 0, .slice none 0 0]), (41, (eOffice t21 y24)), (29, (eStore t29.1 y32))] ?_
 refine oe (nt (qs (qs ?_)))
 obtain ⟨p33, hE34, h35⟩ := bS h31
 refine JC_cut (τ := Unit) (fun _ => [(4, .p 2 0), (6, .p 3 0), (7, .p 4 0), (28, vb p33)]) (fun _ => [(41, (eOffice x0 b0)), (47, (eFact (Fact.mk x1.Key x1.From x1.To t25 x1.Value))), (41, [.slice none 0 0, .slice none 0 0, .slice none 0 0, .int .i64 0, .int .i64 0, .slice none 0 0, .slice none 0 0, .int .i64 0, .slice none 0 0]), (41, (eOffice t21 y24)), (29, (eStore t29.1 y32))]) (fun _ => [SlRes 76 t21.Case.Book.Rules y24.1.1 y24.1.2, SlRes 47 t21.Case.Store.Facts y24.2.1.1 y24.2.1.2, SlRes 52 t21.Case.Series.Points y24.2.2.1.1 y24.2.2.1.2, SlRes 156 t21.Case.Member.Spells y24.2.2.2.1.1 y24.2.2.2.1.2, SlRes 158 t21.Case.Member.Events y24.2.2.2.2.1.1 y24.2.2.2.2.1.2, SlRes 3 t21.Paid y24.2.2.2.2.2.1 y24.2.2.2.2.2.2, SlRes 47 t29.1.Facts y32.1 y32.2]) ?_ (fun _ => ?_)
 · refine qr (oN 3 [(24, vb (!t29.2))] [7, 6, 4, 2] ?_)
   refine oS 24 hE34 (fun h37 => ?_) (fun h38 => ?_)
   · refine oN 4 [(28, vb true)] [7, 6, 4] ?_
     refine oe ?_
     obtain rfl := sI h37
     exact mt () [4, 6, 7, 28] [1, 1, 1, 1, 1, 1, 0] 5
   refine oN 1 [(25, .v (vOffice x0 b0))] [24, 7, 6, 4] ?_
   obtain ⟨t39, h40, h41⟩ := bS h38
   refine k0 (fun γ w hs => c_impl_OfficeOk (b0 := b0) h40 (hv0_0.kept hs.kept) (hv0_1.kept hs.kept) (hv0_2.kept hs.kept) (hv0_3.kept hs.kept) (hv0_4.kept hs.kept) (hv0_5.kept hs.kept)) ?_
   refine oN 2 [(28, vb (!t39))] [7, 6, 4] ?_
   refine oe ?_
   obtain rfl := sI h41
   exact mt () [4, 6, 7, 28] [1, 1, 1, 1, 1, 1, 0] 5
 refine nt (cC h35 (fun h44 => ?_) (fun h45 => ?_))
 · refine qs (qr (oB 3 [(5, vb false)] [4] [(41, (eOffice x0 b0)), (47, (eFact (Fact.mk x1.Key x1.From x1.To t25 x1.Value))), (41, (eOffice t21 y24)), (41, (eOffice t21 y24)), (29, (eStore t29.1 y32))] ?_))
   refine oe (nt (qe (nr (rt [vOffice t21 y24, .bool false] (fun γ w hs => ?_)))))
   rw [← sI h44]
   exact ⟨(y24.1, y24.2.1, y24.2.2.1, y24.2.2.2.1, y24.2.2.2.2.1, y24.2.2.2.2.2), rfl, hs.kept.toBelow, (hs.takeR (is := [0, 0, 0, 0, 0, 0]) rfl).fresh⟩
 refine qk (nt (qs (qr (oB 4 [] [4, 6] [(41, (eOffice x0 b0)), (47, (eFact (Fact.mk x1.Key x1.From x1.To t25 x1.Value))), (41, [.slice none 0 0, .slice none 0 0, .slice none 0 0, .int .i64 0, .int .i64 0, .slice none 0 0, .slice none 0 0, .int .i64 0, .slice none 0 0]), (41, (eOffice (Office.mk (Case.mk t21.Case.Book t29.1 t21.Case.Series t21.Case.Member) t21.Start t21.Paid) (y24.1, y32, y24.2.2.1, y24.2.2.2.1, y24.2.2.2.2.1, y24.2.2.2.2.2))), (29, (eStore t29.1 y32))] ?_))))
 refine oe (nt (qs (qr (oB 3 [(5, vb true)] [4] [(41, (eOffice x0 b0)), (47, (eFact (Fact.mk x1.Key x1.From x1.To t25 x1.Value))), (41, (eOffice (Office.mk (Case.mk t21.Case.Book t29.1 t21.Case.Series t21.Case.Member) t21.Start t21.Paid) (y24.1, y32, y24.2.2.1, y24.2.2.2.1, y24.2.2.2.2.1, y24.2.2.2.2.2))), (41, (eOffice (Office.mk (Case.mk t21.Case.Book t29.1 t21.Case.Series t21.Case.Member) t21.Start t21.Paid) (y24.1, y32, y24.2.2.1, y24.2.2.2.1, y24.2.2.2.2.1, y24.2.2.2.2.2))), (29, (eStore t29.1 y32))] ?_))))
 refine oe (nt (qe (rt [vOffice (Office.mk (Case.mk t21.Case.Book t29.1 t21.Case.Series t21.Case.Member) t21.Start t21.Paid) (y24.1, y32, y24.2.2.1, y24.2.2.2.1, y24.2.2.2.2.1, y24.2.2.2.2.2), .bool true] (fun γ w hs => ?_))))
 rw [← sI h45]
 exact ⟨(y24.1, y32, y24.2.2.1, y24.2.2.2.1, y24.2.2.2.2.1, y24.2.2.2.2.2), rfl, hs.kept.toBelow, (hs.takeR (is := [0, 5, 1, 1, 1, 1]) rfl).fresh⟩

theorem c_impl_Publish {W : World} {x0 : Series} {a0_0 : Option Addr} {c0_0 : Nat} {x1 : Point} {r : Series × Bool} (h : impl_Publish x0 x1 = some r) (hv0_0 : SlView W x0.Points a0_0 c0_0) :
    Gives Tryz.prog 54 #[vSeries x0 (a0_0, c0_0), vPoint x1] W (fun y : AC => .tuple #[vSeries r.1 y, .bool r.2]) (fun y => [SlRes 52 r.1.Points y.1 y.2]) := by
 unfold impl_Publish at h
 refine en Tryz.func54 Tryz.ntmps54 ?_
 refine qs (qr (oB 4 [(4, .p 2 0), (3, .p 1 0), (2, .p 0 0)] [] [(32, (eSeries x0 (a0_0, c0_0))), (52, (ePoint x1)), (32, [.slice none 0 0])] ?_))
 refine oe (nt (qs ?_))
 obtain ⟨t21, h22, h23⟩ := bS h
 obtain ⟨l27, hm28, h29⟩ := bS h23
 refine JC_cut (τ := AC) (fun y30 => [(6, .p 3 0), (4, .p 2 0), (2, .p 0 0)]) (fun y30 => [(32, (eSeries x0 (a0_0, c0_0))), (52, (ePoint x1)), (32, [.slice none 0 0]), (32, (eSeries (Series.mk l27) y30))]) (fun y30 => [SlRes 52 l27 y30.1 y30.2]) ?_ (fun y30 => ?_)
 · refine jw [4, 3, 2] [] ?_
   refine JC_heldN (ks := [0, 1, 2]) (Rk := []) 9 (by kernel_rfl) (by kernel_rfl) ?_
   refine htq 0 (.p 0 0) [] ?_
   refine htq 1 (.v (.slice a0_0 x0.Points.length c0_0)) [] ?_
   refine hk [8, 4, 3, 2] ?_
   refine htq 3 (.v (vPoint x1)) [] ?_
   refine hk [10, 8, 4, 2] ?_
   refine ha3 2 4 7 ?_ ?_ ?_
   · refine hi (fun γ0 δ hm => ?_)
     refine g1 (fun w hs => c_slices_Clone_Point h22 (hv0_0.kept hs.kept)) (fun y24 => ?_)
     refine gn hm [9, 10, 4, 2] [] ?_
     refine ha2 4 7 ?_ ?_
     · refine hi (fun γ0 δ hm => ?_)
       refine gb [] [SlRes 52 t21 y24.1 y24.2] 52 1 [.int .i64 x1.Month, .int .i64 x1.Known, .int .i64 x1.Value] ([x1] : List Point) (own_flat (by kernel_rfl)) (fun y25 => ?_)
       refine gn hm [11, 9, 4, 2] [] ?_
       refine ha2 5 7 ?_ ?_
       · refine hr_ [1, 0] ?_
         refine hi (fun γ0 δ hm => ?_)
         refine ga 30 y25.2 Tryz.t52 (vPoint (Point.mk 0 0 0)) (fun w hs => ⟨y25.2, (hs.view 1 rfl)⟩) hm28 (fun y26 => ?_)
         refine gn hm [12, 4, 2] [] ?_
         refine htq 6 (.v (vSeries (Series.mk l27) y26)) [] ?_
         refine hk [13, 4, 2] ?_
         refine ha1 7 ?_
         refine hi (fun γ0 δ hm => ?_)
         refine gs [(6, .p 3 0), (13, .v (vSeries (Series.mk l27) y26)), (4, .p 2 0), (2, .p 0 0)] [(32, (eSeries x0 (a0_0, c0_0))), (52, (ePoint x1)), (32, [.slice none 0 0]), (32, [.slice none 0 0])] (fun δ2 => ?_)
         refine gd hm [6, 13, 4, 2] [] ?_
         refine ha1 8 ?_
         refine hi (fun γ0 δ hm => ?_)
         refine gs [(6, .p 3 0), (13, .v (vSeries (Series.mk l27) y26)), (4, .p 2 0), (2, .p 0 0)] [(32, (eSeries x0 (a0_0, c0_0))), (52, (ePoint x1)), (32, [.slice none 0 0]), (32, (eSeries (Series.mk l27) y26))] (fun δ2 => ?_)
         refine gd hm [6, 4, 2] [] ?_
         exact hd y26 [6, 4, 2] [0] 4
       · refine hi (fun γ0 δ hm => ?_)
         refine gs [(6, .p 3 0), (11, .v (.slice y25.1 ([x1] : List Point).length y25.2)), (9, .v (.slice y24.1 t21.length y24.2)), (4, .p 2 0), (2, .p 0 0)] [(32, (eSeries x0 (a0_0, c0_0))), (52, (ePoint x1)), (32, [.slice none 0 0]), (32, [.slice none 0 0])] (fun δ2 => ?_)
         refine gd hm [6, 11, 9, 4, 2] [] ?_
         refine ha1 5 ?_
         refine hr_ [1, 0] ?_
         refine hi (fun γ0 δ hm => ?_)
         refine ga 30 y25.2 Tryz.t52 (vPoint (Point.mk 0 0 0)) (fun w hs => ⟨y25.2, (hs.view 1 rfl)⟩) hm28 (fun y26 => ?_)
         refine gn hm [12, 6, 4, 2] [] ?_
         refine htq 6 (.v (vSeries (Series.mk l27) y26)) [] ?_
         refine hk [13, 6, 4, 2] ?_
         refine ha1 8 ?_
         refine hi (fun γ0 δ hm => ?_)
         refine gs [(13, .v (vSeries (Series.mk l27) y26)), (6, .p 3 0), (4, .p 2 0), (2, .p 0 0)] [(32, (eSeries x0 (a0_0, c0_0))), (52, (ePoint x1)), (32, [.slice none 0 0]), (32, (eSeries (Series.mk l27) y26))] (fun δ2 => ?_)
         refine gd hm [6, 4, 2] [] ?_
         exact hd y26 [6, 4, 2] [0] 4
     · refine hi (fun γ0 δ hm => ?_)
       refine gs [(6, .p 3 0), (9, .v (.slice y24.1 t21.length y24.2)), (10, .v (vPoint x1)), (4, .p 2 0), (2, .p 0 0)] [(32, (eSeries x0 (a0_0, c0_0))), (52, (ePoint x1)), (32, [.slice none 0 0]), (32, [.slice none 0 0])] (fun δ2 => ?_)
       refine gd hm [6, 9, 10, 4, 2] [] ?_
       refine ha1 4 ?_
       refine hi (fun γ0 δ hm => ?_)
       refine gb [] [SlRes 52 t21 y24.1 y24.2] 52 1 [.int .i64 x1.Month, .int .i64 x1.Known, .int .i64 x1.Value] ([x1] : List Point) (own_flat (by kernel_rfl)) (fun y25 => ?_)
       refine gn hm [11, 6, 9, 4, 2] [] ?_
       refine ha1 5 ?_
       refine hr_ [1, 0] ?_
       refine hi (fun γ0 δ hm => ?_)
       refine ga 30 y25.2 Tryz.t52 (vPoint (Point.mk 0 0 0)) (fun w hs => ⟨y25.2, (hs.view 1 rfl)⟩) hm28 (fun y26 => ?_)
       refine gn hm [12, 6, 4, 2] [] ?_
       refine htq 6 (.v (vSeries (Series.mk l27) y26)) [] ?_
       refine hk [13, 6, 4, 2] ?_
       refine ha1 8 ?_
       refine hi (fun γ0 δ hm => ?_)
       refine gs [(13, .v (vSeries (Series.mk l27) y26)), (6, .p 3 0), (4, .p 2 0), (2, .p 0 0)] [(32, (eSeries x0 (a0_0, c0_0))), (52, (ePoint x1)), (32, [.slice none 0 0]), (32, (eSeries (Series.mk l27) y26))] (fun δ2 => ?_)
       refine gd hm [6, 4, 2] [] ?_
       exact hd y26 [6, 4, 2] [0] 4
   · refine hi (fun γ0 δ hm => ?_)
     refine gb [] [] 52 1 [.int .i64 x1.Month, .int .i64 x1.Known, .int .i64 x1.Value] ([x1] : List Point) (own_flat (by kernel_rfl)) (fun y25 => ?_)
     refine gn hm [11, 8, 4, 2] [] ?_
     refine ha2 2 7 ?_ ?_
     · refine hi (fun γ0 δ hm => ?_)
       refine g1 (fun w hs => c_slices_Clone_Point h22 (hv0_0.kept hs.kept)) (fun y24 => ?_)
       refine gn hm [9, 11, 4, 2] [] ?_
       refine ha2 5 7 ?_ ?_
       · refine hi (fun γ0 δ hm => ?_)
         refine ga 30 y25.2 Tryz.t52 (vPoint (Point.mk 0 0 0)) (fun w hs => ⟨y25.2, (hs.view 1 rfl)⟩) hm28 (fun y26 => ?_)
         refine gn hm [12, 4, 2] [] ?_
         refine htq 6 (.v (vSeries (Series.mk l27) y26)) [] ?_
         refine hk [13, 4, 2] ?_
         refine ha1 7 ?_
         refine hi (fun γ0 δ hm => ?_)
         refine gs [(6, .p 3 0), (13, .v (vSeries (Series.mk l27) y26)), (4, .p 2 0), (2, .p 0 0)] [(32, (eSeries x0 (a0_0, c0_0))), (52, (ePoint x1)), (32, [.slice none 0 0]), (32, [.slice none 0 0])] (fun δ2 => ?_)
         refine gd hm [6, 13, 4, 2] [] ?_
         refine ha1 8 ?_
         refine hi (fun γ0 δ hm => ?_)
         refine gs [(6, .p 3 0), (13, .v (vSeries (Series.mk l27) y26)), (4, .p 2 0), (2, .p 0 0)] [(32, (eSeries x0 (a0_0, c0_0))), (52, (ePoint x1)), (32, [.slice none 0 0]), (32, (eSeries (Series.mk l27) y26))] (fun δ2 => ?_)
         refine gd hm [6, 4, 2] [] ?_
         exact hd y26 [6, 4, 2] [0] 4
       · refine hi (fun γ0 δ hm => ?_)
         refine gs [(6, .p 3 0), (9, .v (.slice y24.1 t21.length y24.2)), (11, .v (.slice y25.1 ([x1] : List Point).length y25.2)), (4, .p 2 0), (2, .p 0 0)] [(32, (eSeries x0 (a0_0, c0_0))), (52, (ePoint x1)), (32, [.slice none 0 0]), (32, [.slice none 0 0])] (fun δ2 => ?_)
         refine gd hm [6, 9, 11, 4, 2] [] ?_
         refine ha1 5 ?_
         refine hi (fun γ0 δ hm => ?_)
         refine ga 30 y25.2 Tryz.t52 (vPoint (Point.mk 0 0 0)) (fun w hs => ⟨y25.2, (hs.view 1 rfl)⟩) hm28 (fun y26 => ?_)
         refine gn hm [12, 6, 4, 2] [] ?_
         refine htq 6 (.v (vSeries (Series.mk l27) y26)) [] ?_
         refine hk [13, 6, 4, 2] ?_
         refine ha1 8 ?_
         refine hi (fun γ0 δ hm => ?_)
         refine gs [(13, .v (vSeries (Series.mk l27) y26)), (6, .p 3 0), (4, .p 2 0), (2, .p 0 0)] [(32, (eSeries x0 (a0_0, c0_0))), (52, (ePoint x1)), (32, [.slice none 0 0]), (32, (eSeries (Series.mk l27) y26))] (fun δ2 => ?_)
         refine gd hm [6, 4, 2] [] ?_
         exact hd y26 [6, 4, 2] [0] 4
     · refine hi (fun γ0 δ hm => ?_)
       refine gs [(6, .p 3 0), (11, .v (.slice y25.1 ([x1] : List Point).length y25.2)), (8, .v (.slice a0_0 x0.Points.length c0_0)), (4, .p 2 0), (2, .p 0 0)] [(32, (eSeries x0 (a0_0, c0_0))), (52, (ePoint x1)), (32, [.slice none 0 0]), (32, [.slice none 0 0])] (fun δ2 => ?_)
       refine gd hm [6, 11, 8, 4, 2] [] ?_
       refine ha1 2 ?_
       refine hi (fun γ0 δ hm => ?_)
       refine g1 (fun w hs => c_slices_Clone_Point h22 (hv0_0.kept hs.kept)) (fun y24 => ?_)
       refine gn hm [9, 6, 11, 4, 2] [] ?_
       refine ha1 5 ?_
       refine hi (fun γ0 δ hm => ?_)
       refine ga 30 y25.2 Tryz.t52 (vPoint (Point.mk 0 0 0)) (fun w hs => ⟨y25.2, (hs.view 1 rfl)⟩) hm28 (fun y26 => ?_)
       refine gn hm [12, 6, 4, 2] [] ?_
       refine htq 6 (.v (vSeries (Series.mk l27) y26)) [] ?_
       refine hk [13, 6, 4, 2] ?_
       refine ha1 8 ?_
       refine hi (fun γ0 δ hm => ?_)
       refine gs [(13, .v (vSeries (Series.mk l27) y26)), (6, .p 3 0), (4, .p 2 0), (2, .p 0 0)] [(32, (eSeries x0 (a0_0, c0_0))), (52, (ePoint x1)), (32, [.slice none 0 0]), (32, (eSeries (Series.mk l27) y26))] (fun δ2 => ?_)
       refine gd hm [6, 4, 2] [] ?_
       exact hd y26 [6, 4, 2] [0] 4
   · refine hi (fun γ0 δ hm => ?_)
     refine gs [(6, .p 3 0), (10, .v (vPoint x1)), (8, .v (.slice a0_0 x0.Points.length c0_0)), (4, .p 2 0), (2, .p 0 0)] [(32, (eSeries x0 (a0_0, c0_0))), (52, (ePoint x1)), (32, [.slice none 0 0]), (32, [.slice none 0 0])] (fun δ2 => ?_)
     refine gd hm [6, 10, 8, 4, 2] [] ?_
     refine ha2 2 4 ?_ ?_
     · refine hi (fun γ0 δ hm => ?_)
       refine g1 (fun w hs => c_slices_Clone_Point h22 (hv0_0.kept hs.kept)) (fun y24 => ?_)
       refine gn hm [9, 6, 10, 4, 2] [] ?_
       refine ha1 4 ?_
       refine hi (fun γ0 δ hm => ?_)
       refine gb [] [SlRes 52 t21 y24.1 y24.2] 52 1 [.int .i64 x1.Month, .int .i64 x1.Known, .int .i64 x1.Value] ([x1] : List Point) (own_flat (by kernel_rfl)) (fun y25 => ?_)
       refine gn hm [11, 9, 6, 4, 2] [] ?_
       refine ha1 5 ?_
       refine hr_ [1, 0] ?_
       refine hi (fun γ0 δ hm => ?_)
       refine ga 30 y25.2 Tryz.t52 (vPoint (Point.mk 0 0 0)) (fun w hs => ⟨y25.2, (hs.view 1 rfl)⟩) hm28 (fun y26 => ?_)
       refine gn hm [12, 6, 4, 2] [] ?_
       refine htq 6 (.v (vSeries (Series.mk l27) y26)) [] ?_
       refine hk [13, 6, 4, 2] ?_
       refine ha1 8 ?_
       refine hi (fun γ0 δ hm => ?_)
       refine gs [(13, .v (vSeries (Series.mk l27) y26)), (6, .p 3 0), (4, .p 2 0), (2, .p 0 0)] [(32, (eSeries x0 (a0_0, c0_0))), (52, (ePoint x1)), (32, [.slice none 0 0]), (32, (eSeries (Series.mk l27) y26))] (fun δ2 => ?_)
       refine gd hm [6, 4, 2] [] ?_
       exact hd y26 [6, 4, 2] [0] 4
     · refine hi (fun γ0 δ hm => ?_)
       refine gb [] [] 52 1 [.int .i64 x1.Month, .int .i64 x1.Known, .int .i64 x1.Value] ([x1] : List Point) (own_flat (by kernel_rfl)) (fun y25 => ?_)
       refine gn hm [11, 6, 8, 4, 2] [] ?_
       refine ha1 2 ?_
       refine hi (fun γ0 δ hm => ?_)
       refine g1 (fun w hs => c_slices_Clone_Point h22 (hv0_0.kept hs.kept)) (fun y24 => ?_)
       refine gn hm [9, 11, 6, 4, 2] [] ?_
       refine ha1 5 ?_
       refine hi (fun γ0 δ hm => ?_)
       refine ga 30 y25.2 Tryz.t52 (vPoint (Point.mk 0 0 0)) (fun w hs => ⟨y25.2, (hs.view 1 rfl)⟩) hm28 (fun y26 => ?_)
       refine gn hm [12, 6, 4, 2] [] ?_
       refine htq 6 (.v (vSeries (Series.mk l27) y26)) [] ?_
       refine hk [13, 6, 4, 2] ?_
       refine ha1 8 ?_
       refine hi (fun γ0 δ hm => ?_)
       refine gs [(13, .v (vSeries (Series.mk l27) y26)), (6, .p 3 0), (4, .p 2 0), (2, .p 0 0)] [(32, (eSeries x0 (a0_0, c0_0))), (52, (ePoint x1)), (32, [.slice none 0 0]), (32, (eSeries (Series.mk l27) y26))] (fun δ2 => ?_)
       refine gd hm [6, 4, 2] [] ?_
       exact hd y26 [6, 4, 2] [0] 4
 refine nt (qs (qs ?_))
 obtain ⟨p31, hE32, h33⟩ := bS h29
 refine JC_cut (τ := Unit) (fun _ => [(2, .p 0 0), (4, .p 2 0), (6, .p 3 0), (21, vb p31)]) (fun _ => [(32, (eSeries x0 (a0_0, c0_0))), (52, (ePoint x1)), (32, [.slice none 0 0]), (32, (eSeries (Series.mk l27) y30))]) (fun _ => [SlRes 52 l27 y30.1 y30.2]) ?_ (fun _ => ?_)
 · refine qr (oN 1 [(14, .v (vSeries x0 (a0_0, c0_0)))] [6, 4, 2] ?_)
   obtain ⟨t34, h35, h36⟩ := bS hE32
   refine k0 (fun γ w hs => c_impl_SeriesOk h35 (hv0_0.kept hs.kept)) ?_
   refine oN 2 [(17, vb (!t34))] [6, 4, 2] ?_
   refine oS 17 h36 (fun h39 => ?_) (fun h40 => ?_)
   · refine oN 4 [(21, vb true)] [6, 4, 2] ?_
     refine oe ?_
     obtain rfl := sI h39
     exact mt () [2, 4, 6, 21] [0] 4
   refine oN 1 [(18, .v (vSeries (Series.mk l27) y30))] [17, 6, 4, 2] ?_
   obtain ⟨t41, h42, h43⟩ := bS h40
   refine k0 (fun γ w hs => c_impl_SeriesOk h42 (hs.view 0 rfl)) ?_
   refine oN 2 [(21, vb (!t41))] [6, 4, 2] ?_
   refine oe ?_
   obtain rfl := sI h43
   exact mt () [2, 4, 6, 21] [0] 4
 refine nt (cC h33 (fun h50 => ?_) (fun h51 => ?_))
 · refine qs (qr (oN 1 [(22, .v (vSeries x0 (a0_0, c0_0)))] [4] ?_))
   obtain ⟨t52, h53, h54⟩ := bS h50
   refine k1 (fun γ w hs => c_impl_copySeries h53 (hv0_0.kept hs.kept)) (fun y55 => ?_)
   refine oB 2 [(5, vb false)] [4] [(32, (eSeries x0 (a0_0, c0_0))), (52, (ePoint x1)), (32, (eSeries t52 y55)), (32, (eSeries (Series.mk l27) y30))] ?_
   refine oe (nt (qe (nr (rt [vSeries t52 y55, .bool false] (fun γ w hs => ?_)))))
   rw [← sI h54]
   exact ⟨y55, rfl, hs.kept.toBelow, (hs.takeR (is := [0]) rfl).fresh⟩
 refine qk (nt (qs (qr (oB 3 [(5, vb true)] [4] [(32, (eSeries x0 (a0_0, c0_0))), (52, (ePoint x1)), (32, (eSeries (Series.mk l27) y30)), (32, (eSeries (Series.mk l27) y30))] ?_))))
 refine oe (nt (qe (rt [vSeries (Series.mk l27) y30, .bool true] (fun γ w hs => ?_))))
 rw [← sI h51]
 exact ⟨y30, rfl, hs.kept.toBelow, (hs.takeR (is := [0]) rfl).fresh⟩

theorem c_impl_LearnPoint {W : World} {x0 : Office} {b0 : AC × AC × AC × AC × AC × AC} {x1 : Point} {r : Office × Bool} (h : impl_LearnPoint x0 x1 = some r) (hv0_0 : SlView W x0.Case.Book.Rules b0.1.1 b0.1.2) (hv0_1 : SlView W x0.Case.Store.Facts b0.2.1.1 b0.2.1.2) (hv0_2 : SlView W x0.Case.Series.Points b0.2.2.1.1 b0.2.2.1.2) (hv0_3 : SlView W x0.Case.Member.Spells b0.2.2.2.1.1 b0.2.2.2.1.2) (hv0_4 : SlView W x0.Case.Member.Events b0.2.2.2.2.1.1 b0.2.2.2.2.1.2) (hv0_5 : SlView W x0.Paid b0.2.2.2.2.2.1 b0.2.2.2.2.2.2) :
    Gives Tryz.prog 17 #[vOffice x0 b0, vPoint x1] W (fun y : AC × AC × AC × AC × AC × AC => .tuple #[vOffice r.1 y, .bool r.2]) (fun y => [SlRes 76 r.1.Case.Book.Rules y.1.1 y.1.2, SlRes 47 r.1.Case.Store.Facts y.2.1.1 y.2.1.2, SlRes 52 r.1.Case.Series.Points y.2.2.1.1 y.2.2.1.2, SlRes 156 r.1.Case.Member.Spells y.2.2.2.1.1 y.2.2.2.1.2, SlRes 158 r.1.Case.Member.Events y.2.2.2.2.1.1 y.2.2.2.2.1.2, SlRes 3 r.1.Paid y.2.2.2.2.2.1 y.2.2.2.2.2.2]) := by
 unfold impl_LearnPoint at h
 refine en Tryz.func17 Tryz.ntmps17 ?_
 refine qs (qr (oB 4 [(4, .p 2 0), (3, .p 1 0), (2, .p 0 0)] [] [(41, (eOffice x0 b0)), (52, (ePoint x1)), (41, [.slice none 0 0, .slice none 0 0, .slice none 0 0, .int .i64 0, .int .i64 0, .slice none 0 0, .slice none 0 0, .int .i64 0, .slice none 0 0])] ?_))
 refine oe (nt (qs (qr (oN 1 [(9, .v (vOffice x0 b0))] [4, 3, 2] ?_))))
 obtain ⟨t21, h22, h23⟩ := bS h
 refine k1 (fun γ w hs => c_impl_copyOffice (b0 := b0) h22 (hv0_0.kept hs.kept) (hv0_1.kept hs.kept) (hv0_2.kept hs.kept) (hv0_3.kept hs.kept) (hv0_4.kept hs.kept) (hv0_5.kept hs.kept)) (fun y24 => ?_)
 refine oB 2 [(6, .p 3 0)] [4, 3, 2] [(41, (eOffice x0 b0)), (52, (ePoint x1)), (41, [.slice none 0 0, .slice none 0 0, .slice none 0 0, .int .i64 0, .int .i64 0, .slice none 0 0, .slice none 0 0, .int .i64 0, .slice none 0 0]), (41, (eOffice t21 y24))] ?_
 refine oe (nt (qs (qr (oN 1 [(11, .v (vOffice x0 b0))] [6, 4, 3, 2] ?_))))
 obtain ⟨t25, h26, h27⟩ := bS h23
 refine k0 (fun γ w hs => c_impl_now (b0 := b0) h26 (hv0_0.kept hs.kept) (hv0_1.kept hs.kept) (hv0_2.kept hs.kept) (hv0_3.kept hs.kept) (hv0_4.kept hs.kept) (hv0_5.kept hs.kept)) ?_
 refine oB 2 [] [6, 4, 3, 2] [(41, (eOffice x0 b0)), (52, (ePoint (Point.mk x1.Month t25 x1.Value))), (41, [.slice none 0 0, .slice none 0 0, .slice none 0 0, .int .i64 0, .int .i64 0, .slice none 0 0, .slice none 0 0, .int .i64 0, .slice none 0 0]), (41, (eOffice t21 y24))] ?_
 refine oe (nt (qs (qr (oN 4 [(18, .v (vPoint (Point.mk x1.Month t25 x1.Value))), (17, .v (vSeries x0.Case.Series b0.2.2.1))] [6, 4, 2] ?_))))
 obtain ⟨t29, h30, h31⟩ := bS h27
 refine k1 (fun γ w hs => c_impl_Publish h30 (hv0_2.kept hs.kept)) (fun y32 => ?_)
 refine oB 6 [(8, vb t29.2), (7, .p 4 0)] [6, 4, 2] [(41, (eOffice x0 b0)), (52, (ePoint (Point.mk x1.Month t25 x1.Value))), (41, [.slice none 0 0, .slice none 0 0, .slice none 0 0, .int .i64 0, .int .i64 0, .slice none 0 0, .slice none 0 0, .int .i64 0, .slice none 0 0]), (41, (eOffice t21 y24)), (32, (eSeries t29.1 y32))] ?_
 refine oe (nt (qs (qs ?_)))
 obtain ⟨p33, hE34, h35⟩ := bS h31
 refine JC_cut (τ := Unit) (fun _ => [(4, .p 2 0), (6, .p 3 0), (7, .p 4 0), (28, vb p33)]) (fun _ => [(41, (eOffice x0 b0)), (52, (ePoint (Point.mk x1.Month t25 x1.Value))), (41, [.slice none 0 0, .slice none 0 0, .slice none 0 0, .int .i64 0, .int .i64 0, .slice none 0 0, .slice none 0 0, .int .i64 0, .slice none 0 0]), (41, (eOffice t21 y24)), (32, (eSeries t29.1 y32))]) (fun _ => [SlRes 76 t21.Case.Book.Rules y24.1.1 y24.1.2, SlRes 47 t21.Case.Store.Facts y24.2.1.1 y24.2.1.2, SlRes 52 t21.Case.Series.Points y24.2.2.1.1 y24.2.2.1.2, SlRes 156 t21.Case.Member.Spells y24.2.2.2.1.1 y24.2.2.2.1.2, SlRes 158 t21.Case.Member.Events y24.2.2.2.2.1.1 y24.2.2.2.2.1.2, SlRes 3 t21.Paid y24.2.2.2.2.2.1 y24.2.2.2.2.2.2, SlRes 52 t29.1.Points y32.1 y32.2]) ?_ (fun _ => ?_)
 · refine qr (oN 3 [(24, vb (!t29.2))] [7, 6, 4, 2] ?_)
   refine oS 24 hE34 (fun h37 => ?_) (fun h38 => ?_)
   · refine oN 4 [(28, vb true)] [7, 6, 4] ?_
     refine oe ?_
     obtain rfl := sI h37
     exact mt () [4, 6, 7, 28] [1, 1, 1, 1, 1, 1, 0] 5
   refine oN 1 [(25, .v (vOffice x0 b0))] [24, 7, 6, 4] ?_
   obtain ⟨t39, h40, h41⟩ := bS h38
   refine k0 (fun γ w hs => c_impl_OfficeOk (b0 := b0) h40 (hv0_0.kept hs.kept) (hv0_1.kept hs.kept) (hv0_2.kept hs.kept) (hv0_3.kept hs.kept) (hv0_4.kept hs.kept) (hv0_5.kept hs.kept)) ?_
   refine oN 2 [(28, vb (!t39))] [7, 6, 4] ?_
   refine oe ?_
   obtain rfl := sI h41
   exact mt () [4, 6, 7, 28] [1, 1, 1, 1, 1, 1, 0] 5
 refine nt (cC h35 (fun h44 => ?_) (fun h45 => ?_))
 · refine qs (qr (oB 3 [(5, vb false)] [4] [(41, (eOffice x0 b0)), (52, (ePoint (Point.mk x1.Month t25 x1.Value))), (41, (eOffice t21 y24)), (41, (eOffice t21 y24)), (32, (eSeries t29.1 y32))] ?_))
   refine oe (nt (qe (nr (rt [vOffice t21 y24, .bool false] (fun γ w hs => ?_)))))
   rw [← sI h44]
   exact ⟨(y24.1, y24.2.1, y24.2.2.1, y24.2.2.2.1, y24.2.2.2.2.1, y24.2.2.2.2.2), rfl, hs.kept.toBelow, (hs.takeR (is := [0, 0, 0, 0, 0, 0]) rfl).fresh⟩
 refine qk (nt (qs (qr (oB 4 [] [4, 6] [(41, (eOffice x0 b0)), (52, (ePoint (Point.mk x1.Month t25 x1.Value))), (41, [.slice none 0 0, .slice none 0 0, .slice none 0 0, .int .i64 0, .int .i64 0, .slice none 0 0, .slice none 0 0, .int .i64 0, .slice none 0 0]), (41, (eOffice (Office.mk (Case.mk t21.Case.Book t21.Case.Store t29.1 t21.Case.Member) t21.Start t21.Paid) (y24.1, y24.2.1, y32, y24.2.2.2.1, y24.2.2.2.2.1, y24.2.2.2.2.2))), (32, (eSeries t29.1 y32))] ?_))))
 refine oe (nt (qs (qr (oB 3 [(5, vb true)] [4] [(41, (eOffice x0 b0)), (52, (ePoint (Point.mk x1.Month t25 x1.Value))), (41, (eOffice (Office.mk (Case.mk t21.Case.Book t21.Case.Store t29.1 t21.Case.Member) t21.Start t21.Paid) (y24.1, y24.2.1, y32, y24.2.2.2.1, y24.2.2.2.2.1, y24.2.2.2.2.2))), (41, (eOffice (Office.mk (Case.mk t21.Case.Book t21.Case.Store t29.1 t21.Case.Member) t21.Start t21.Paid) (y24.1, y24.2.1, y32, y24.2.2.2.1, y24.2.2.2.2.1, y24.2.2.2.2.2))), (32, (eSeries t29.1 y32))] ?_))))
 refine oe (nt (qe (rt [vOffice (Office.mk (Case.mk t21.Case.Book t21.Case.Store t29.1 t21.Case.Member) t21.Start t21.Paid) (y24.1, y24.2.1, y32, y24.2.2.2.1, y24.2.2.2.2.1, y24.2.2.2.2.2), .bool true] (fun γ w hs => ?_))))
 rw [← sI h45]
 exact ⟨(y24.1, y24.2.1, y32, y24.2.2.2.1, y24.2.2.2.2.1, y24.2.2.2.2.2), rfl, hs.kept.toBelow, (hs.takeR (is := [0, 0, 4, 1, 1, 1]) rfl).fresh⟩

theorem c_impl_DoAct {W : World} {x0 : Office} {b0 : AC × AC × AC × AC × AC × AC} {x1 : Act} {r : Office × Int} (h : impl_DoAct x0 x1 = some r) (hv0_0 : SlView W x0.Case.Book.Rules b0.1.1 b0.1.2) (hv0_1 : SlView W x0.Case.Store.Facts b0.2.1.1 b0.2.1.2) (hv0_2 : SlView W x0.Case.Series.Points b0.2.2.1.1 b0.2.2.1.2) (hv0_3 : SlView W x0.Case.Member.Spells b0.2.2.2.1.1 b0.2.2.2.1.2) (hv0_4 : SlView W x0.Case.Member.Events b0.2.2.2.2.1.1 b0.2.2.2.2.1.2) (hv0_5 : SlView W x0.Paid b0.2.2.2.2.2.1 b0.2.2.2.2.2.2) :
    Gives Tryz.prog 24 #[vOffice x0 b0, vAct x1] W (fun y : AC × AC × AC × AC × AC × AC => .tuple #[vOffice r.1 y, .int .i64 r.2]) (fun y => [SlRes 76 r.1.Case.Book.Rules y.1.1 y.1.2, SlRes 47 r.1.Case.Store.Facts y.2.1.1 y.2.1.2, SlRes 52 r.1.Case.Series.Points y.2.2.1.1 y.2.2.1.2, SlRes 156 r.1.Case.Member.Spells y.2.2.2.1.1 y.2.2.2.1.2, SlRes 158 r.1.Case.Member.Events y.2.2.2.2.1.1 y.2.2.2.2.1.2, SlRes 3 r.1.Paid y.2.2.2.2.2.1 y.2.2.2.2.2.2]) := by
 unfold impl_DoAct at h
 refine en Tryz.func24 Tryz.ntmps24 ?_
 refine qs (qr (oB 4 [(4, .p 2 0), (3, .p 1 0), (2, .p 0 0)] [] [(41, (eOffice x0 b0)), (66, (eAct x1)), (41, [.slice none 0 0, .slice none 0 0, .slice none 0 0, .int .i64 0, .int .i64 0, .slice none 0 0, .slice none 0 0, .int .i64 0, .slice none 0 0])] ?_))
 refine oe (nt (qs (qr (oN 1 [(12, .v (vOffice x0 b0))] [4, 3, 2] ?_))))
 obtain ⟨t21, h22, h23⟩ := bS h
 refine k1 (fun γ w hs => c_impl_copyOffice (b0 := b0) h22 (hv0_0.kept hs.kept) (hv0_1.kept hs.kept) (hv0_2.kept hs.kept) (hv0_3.kept hs.kept) (hv0_4.kept hs.kept) (hv0_5.kept hs.kept)) (fun y24 => ?_)
 refine oB 2 [(6, .p 3 0)] [4, 3, 2] [(41, (eOffice x0 b0)), (66, (eAct x1)), (41, [.slice none 0 0, .slice none 0 0, .slice none 0 0, .int .i64 0, .int .i64 0, .slice none 0 0, .slice none 0 0, .int .i64 0, .slice none 0 0]), (41, (eOffice t21 y24))] ?_
 refine oe (nt (qs (qs ?_)))
 obtain ⟨p25, hE26, h27⟩ := bS h23
 refine JC_cut (τ := Unit) (fun _ => [(2, .p 0 0), (3, .p 1 0), (4, .p 2 0), (6, .p 3 0), (21, vb p25)]) (fun _ => [(41, (eOffice x0 b0)), (66, (eAct x1)), (41, [.slice none 0 0, .slice none 0 0, .slice none 0 0, .int .i64 0, .int .i64 0, .slice none 0 0, .slice none 0 0, .int .i64 0, .slice none 0 0]), (41, (eOffice t21 y24))]) (fun _ => [SlRes 76 t21.Case.Book.Rules y24.1.1 y24.1.2, SlRes 47 t21.Case.Store.Facts y24.2.1.1 y24.2.1.2, SlRes 52 t21.Case.Series.Points y24.2.2.1.1 y24.2.2.1.2, SlRes 156 t21.Case.Member.Spells y24.2.2.2.1.1 y24.2.2.2.1.2, SlRes 158 t21.Case.Member.Events y24.2.2.2.2.1.1 y24.2.2.2.2.1.2, SlRes 3 t21.Paid y24.2.2.2.2.2.1 y24.2.2.2.2.2.2]) ?_ (fun _ => ?_)
 · refine qr (oN 1 [(14, .v (vOffice x0 b0))] [6, 4, 3, 2] ?_)
   obtain ⟨t28, h29, h30⟩ := bS hE26
   refine k0 (fun γ w hs => c_impl_OfficeOk (b0 := b0) h29 (hv0_0.kept hs.kept) (hv0_1.kept hs.kept) (hv0_2.kept hs.kept) (hv0_3.kept hs.kept) (hv0_4.kept hs.kept) (hv0_5.kept hs.kept)) ?_
   refine oN 2 [(17, vb (!t28))] [6, 4, 3, 2] ?_
   refine oS 17 h30 (fun h33 => ?_) (fun h34 => ?_)
   · refine oN 4 [(21, vb true)] [6, 4, 3, 2] ?_
     refine oe ?_
     obtain rfl := sI h33
     exact mt () [2, 3, 4, 6, 21] [0, 0, 0, 0, 0, 0] 4
   refine oN 1 [(18, .v (vAct x1))] [17, 6, 4, 3, 2] ?_
   obtain ⟨t35, h36, h37⟩ := bS h34
   refine k0 (fun γ w hs => c_impl_ActOk h36) ?_
   refine oN 2 [(21, vb (!t35))] [6, 4, 3, 2] ?_
   refine oe ?_
   obtain rfl := sI h37
   exact mt () [2, 3, 4, 6, 21] [0, 0, 0, 0, 0, 0] 4
 refine nt (cC h27 (fun h40 => ?_) (fun h41 => ?_))
 · refine qs (qr (oB 3 [(5, vi (-1))] [4] [(41, (eOffice x0 b0)), (66, (eAct x1)), (41, (eOffice t21 y24)), (41, (eOffice t21 y24))] ?_))
   refine oe (nt (qe (nr (rt [vOffice t21 y24, .int .i64 (-1)] (fun γ w hs => ?_)))))
   rw [← sI h40]
   exact ⟨(y24.1, y24.2.1, y24.2.2.1, y24.2.2.2.1, y24.2.2.2.2.1, y24.2.2.2.2.2), rfl, hs.kept.toBelow, (hs.takeR (is := [0, 0, 0, 0, 0, 0]) rfl).fresh⟩
 refine qk (nt (qs (qr (oN 1 [] [2, 3, 4, 6] ?_))))
 refine oe (nt (qs (qs (qr (oN 2 [(24, vi x1.Kind)] [2, 3, 4, 6] ?_)))))
 refine oe (nt (qb (qs (qr (oN 2 [(42, vb (x1.Kind == 1))] [24, 2, 3, 4, 6] ?_)))))
 refine oe (nt ?_)
 obtain ⟨k77, hk78, h83⟩ := jS h41
 refine JC_cutP (τ := (Bool × (List Rule) × (List Fact) × (List Point) × Int × Int × (List Spell) × (List Event) × Int × (List Int)) × (AC × AC × AC × AC × AC × AC)) (fun y => k77 y.1 = some r) (fun y76 => [(4, .p 2 0), (6, .p 3 0), (7, vb y76.1.1)]) (fun y76 => [(41, (eOffice x0 b0)), (66, (eAct x1)), (41, [.slice none 0 0, .slice none 0 0, .slice none 0 0, .int .i64 0, .int .i64 0, .slice none 0 0, .slice none 0 0, .int .i64 0, .slice none 0 0]), (41, (eOffice (Office.mk (Case.mk (Book.mk y76.1.2.1) (Store.mk y76.1.2.2.1) (Series.mk y76.1.2.2.2.1) (Member.mk y76.1.2.2.2.2.1 y76.1.2.2.2.2.2.1 y76.1.2.2.2.2.2.2.1 y76.1.2.2.2.2.2.2.2.1)) y76.1.2.2.2.2.2.2.2.2.1 y76.1.2.2.2.2.2.2.2.2.2) y76.2))]) (fun y76 => [SlRes 76 y76.1.2.1 y76.2.1.1 y76.2.1.2, SlRes 47 y76.1.2.2.1 y76.2.2.1.1 y76.2.2.1.2, SlRes 52 y76.1.2.2.2.1 y76.2.2.2.1.1 y76.2.2.2.1.2, SlRes 156 y76.1.2.2.2.2.2.2.1 y76.2.2.2.2.1.1 y76.2.2.2.2.1.2, SlRes 158 y76.1.2.2.2.2.2.2.2.1 y76.2.2.2.2.2.1.1 y76.2.2.2.2.2.1.2, SlRes 3 y76.1.2.2.2.2.2.2.2.2.2 y76.2.2.2.2.2.2.1 y76.2.2.2.2.2.2.2]) ?_ (fun y76 h79p => ?_)
 · refine cC h83 (fun h85 => ?_) (fun h86 => ?_)
   · refine qr (oN 3 [(47, .v (vFact x1.Fact)), (45, .v (vOffice x0 b0))] [4, 6] ?_)
     obtain ⟨t87, h88, h89⟩ := bS h85
     refine k1 (fun γ w hs => c_impl_LearnFact (b0 := b0) h88 (hv0_0.kept hs.kept) (hv0_1.kept hs.kept) (hv0_2.kept hs.kept) (hv0_3.kept hs.kept) (hv0_4.kept hs.kept) (hv0_5.kept hs.kept)) (fun y90 => ?_)
     refine oB 5 [(7, vb t87.2)] [4, 6] [(41, (eOffice x0 b0)), (66, (eAct x1)), (41, [.slice none 0 0, .slice none 0 0, .slice none 0 0, .int .i64 0, .int .i64 0, .slice none 0 0, .slice none 0 0, .int .i64 0, .slice none 0 0]), (41, (eOffice t87.1 y90))] ?_
     exact oe (mp ((t87.2, t87.1.Case.Book.Rules, t87.1.Case.Store.Facts, t87.1.Case.Series.Points, t87.1.Case.Member.Birth, t87.1.Case.Member.Joined, t87.1.Case.Member.Spells, t87.1.Case.Member.Events, t87.1.Start, t87.1.Paid), ((y90.1.1, y90.1.2), (y90.2.1.1, y90.2.1.2), (y90.2.2.1.1, y90.2.2.1.2), (y90.2.2.2.1.1, y90.2.2.2.1.2), (y90.2.2.2.2.1.1, y90.2.2.2.2.1.2), (y90.2.2.2.2.2.1, y90.2.2.2.2.2.2))) h89 [4, 6, 7] [0, 0, 0, 0, 0, 0] 4)
   refine qs (qr (oN 2 [(51, vb (x1.Kind == 2))] [2, 3, 4, 6] ?_))
   refine oe (nt (cC h86 (fun h92 => ?_) (fun h93 => ?_)))
   · refine qr (oN 3 [(56, .v (vPoint x1.Point)), (54, .v (vOffice x0 b0))] [4, 6] ?_)
     obtain ⟨t94, h95, h96⟩ := bS h92
     refine k1 (fun γ w hs => c_impl_LearnPoint (b0 := b0) h95 (hv0_0.kept hs.kept) (hv0_1.kept hs.kept) (hv0_2.kept hs.kept) (hv0_3.kept hs.kept) (hv0_4.kept hs.kept) (hv0_5.kept hs.kept)) (fun y97 => ?_)
     refine oB 5 [(7, vb t94.2)] [4, 6] [(41, (eOffice x0 b0)), (66, (eAct x1)), (41, [.slice none 0 0, .slice none 0 0, .slice none 0 0, .int .i64 0, .int .i64 0, .slice none 0 0, .slice none 0 0, .int .i64 0, .slice none 0 0]), (41, (eOffice t94.1 y97))] ?_
     exact oe (mp ((t94.2, t94.1.Case.Book.Rules, t94.1.Case.Store.Facts, t94.1.Case.Series.Points, t94.1.Case.Member.Birth, t94.1.Case.Member.Joined, t94.1.Case.Member.Spells, t94.1.Case.Member.Events, t94.1.Start, t94.1.Paid), ((y97.1.1, y97.1.2), (y97.2.1.1, y97.2.1.2), (y97.2.2.1.1, y97.2.2.1.2), (y97.2.2.2.1.1, y97.2.2.2.1.2), (y97.2.2.2.2.1.1, y97.2.2.2.2.1.2), (y97.2.2.2.2.2.1, y97.2.2.2.2.2.2))) h96 [4, 6, 7] [0, 0, 0, 0, 0, 0] 4)
   refine qs (qr (oN 1 [(8, vi 0)] [3, 4, 6] ?_))
   refine oe (nt (qs (qs (qr (oN 3 [(27, vi 0), (26, vi x1.N)] [8, 4, 6] ?_)))))
   refine oe (nt ?_)
   obtain ⟨r101, hL102, h103⟩ := bS h93
   obtain ⟨k104, hk105, h103⟩ := brkS h103
   refine JC_cutP (τ := (Int × (List Rule) × (List Fact) × (List Point) × Int × Int × (List Spell) × (List Event) × Int × (List Int)) × (AC × AC × AC × AC × AC × AC)) (fun y => k104 y.1 = some r) (fun y109 => [(8, vi y109.1.1), (4, .p 2 0), (6, .p 3 0)]) (fun y109 => [(41, (eOffice x0 b0)), (66, (eAct x1)), (41, [.slice none 0 0, .slice none 0 0, .slice none 0 0, .int .i64 0, .int .i64 0, .slice none 0 0, .slice none 0 0, .int .i64 0, .slice none 0 0]), (41, (eOffice (Office.mk (Case.mk (Book.mk y109.1.2.1) (Store.mk y109.1.2.2.1) (Series.mk y109.1.2.2.2.1) (Member.mk y109.1.2.2.2.2.1 y109.1.2.2.2.2.2.1 y109.1.2.2.2.2.2.2.1 y109.1.2.2.2.2.2.2.2.1)) y109.1.2.2.2.2.2.2.2.2.1 y109.1.2.2.2.2.2.2.2.2.2) y109.2))]) (fun y109 => [SlRes 76 y109.1.2.1 y109.2.1.1 y109.2.1.2, SlRes 47 y109.1.2.2.1 y109.2.2.1.1 y109.2.2.1.2, SlRes 52 y109.1.2.2.2.1 y109.2.2.2.1.1 y109.2.2.2.1.2, SlRes 156 y109.1.2.2.2.2.2.2.1 y109.2.2.2.2.1.1 y109.2.2.2.2.1.2, SlRes 158 y109.1.2.2.2.2.2.2.2.1 y109.2.2.2.2.2.1.1 y109.2.2.2.2.2.1.2, SlRes 3 y109.1.2.2.2.2.2.2.2.2.2 y109.2.2.2.2.2.2.1 y109.2.2.2.2.2.2.2]) ?_ (fun y109 h110p => ?_)
   · refine qb (lp (AC × AC × AC × AC × AC × AC) hL102 (fun s98 y99 => [(27, vi s98.1), (26, vi x1.N), (8, vi s98.2.1), (4, .p 2 0), (6, .p 3 0)]) (fun s98 y99 => [(41, (eOffice x0 b0)), (66, (eAct x1)), (41, [.slice none 0 0, .slice none 0 0, .slice none 0 0, .int .i64 0, .int .i64 0, .slice none 0 0, .slice none 0 0, .int .i64 0, .slice none 0 0]), (41, (eOffice (Office.mk (Case.mk (Book.mk s98.2.2.1) (Store.mk s98.2.2.2.1) (Series.mk s98.2.2.2.2.1) (Member.mk s98.2.2.2.2.2.1 s98.2.2.2.2.2.2.1 s98.2.2.2.2.2.2.2.1 s98.2.2.2.2.2.2.2.2.1)) s98.2.2.2.2.2.2.2.2.2.1 s98.2.2.2.2.2.2.2.2.2.2) y99))]) (fun s98 y99 => [SlRes 76 s98.2.2.1 y99.1.1 y99.1.2, SlRes 47 s98.2.2.2.1 y99.2.1.1 y99.2.1.2, SlRes 52 s98.2.2.2.2.1 y99.2.2.1.1 y99.2.2.1.2, SlRes 156 s98.2.2.2.2.2.2.2.1 y99.2.2.2.1.1 y99.2.2.2.1.2, SlRes 158 s98.2.2.2.2.2.2.2.2.1 y99.2.2.2.2.1.1 y99.2.2.2.2.1.2, SlRes 3 s98.2.2.2.2.2.2.2.2.2.2 y99.2.2.2.2.2.1 y99.2.2.2.2.2.2]) ((y24.1.1, y24.1.2), (y24.2.1.1, y24.2.1.2), (y24.2.2.1.1, y24.2.2.1.2), (y24.2.2.2.1.1, y24.2.2.2.1.2), (y24.2.2.2.2.1.1, y24.2.2.2.2.1.2), (y24.2.2.2.2.2.1, y24.2.2.2.2.2.2)) [27, 26, 8, 4, 6] [0, 0, 0, 0, 0, 0] 4 (fun s98 y99 t100 h106 hd107 => ?_))
     refine qs (qr (oN 1 [(28, vb (decide (s98.1 < x1.N)))] [27, 26, 8, 4, 6] ?_))
     refine oe (nt (qs (cC h106 (fun h112 => ?_) (fun h113 => ?_))))
     · refine qk (nt (qs (qb (qs (qr (oN 1 [(30, .v (vOffice (Office.mk (Case.mk (Book.mk s98.2.2.1) (Store.mk s98.2.2.2.1) (Series.mk s98.2.2.2.2.1) (Member.mk s98.2.2.2.2.2.1 s98.2.2.2.2.2.2.1 s98.2.2.2.2.2.2.2.1 s98.2.2.2.2.2.2.2.2.1)) s98.2.2.2.2.2.2.2.2.2.1 s98.2.2.2.2.2.2.2.2.2.2) y99))] [27, 26, 8, 4, 6] ?_))))))
       obtain ⟨t114, h115, h116⟩ := bS h112
       refine k1 (fun γ w hs => c_impl_PayMonth (b0 := y99) h115 (hs.view 0 rfl) (hs.view 1 rfl) (hs.view 2 rfl) (hs.view 3 rfl) (hs.view 4 rfl) (hs.view 5 rfl)) (fun y117 => ?_)
       refine oB 8 [(10, vi t114.2.1), (9, .p 4 0)] [27, 26, 8, 4, 6] [(41, (eOffice x0 b0)), (66, (eAct x1)), (41, [.slice none 0 0, .slice none 0 0, .slice none 0 0, .int .i64 0, .int .i64 0, .slice none 0 0, .slice none 0 0, .int .i64 0, .slice none 0 0]), (41, (eOffice (Office.mk (Case.mk (Book.mk s98.2.2.1) (Store.mk s98.2.2.2.1) (Series.mk s98.2.2.2.2.1) (Member.mk s98.2.2.2.2.2.1 s98.2.2.2.2.2.2.1 s98.2.2.2.2.2.2.2.1 s98.2.2.2.2.2.2.2.2.1)) s98.2.2.2.2.2.2.2.2.2.1 s98.2.2.2.2.2.2.2.2.2.2) y99)), (41, (eOffice t114.1 y117))] ?_
       refine oe (nt (qs (qr (oB 2 [] [10, 27, 26, 8, 4, 6] [(41, (eOffice x0 b0)), (66, (eAct x1)), (41, [.slice none 0 0, .slice none 0 0, .slice none 0 0, .int .i64 0, .int .i64 0, .slice none 0 0, .slice none 0 0, .int .i64 0, .slice none 0 0]), (41, (eOffice t114.1 y117)), (41, (eOffice t114.1 y117))] ?_))))
       refine oe (nt (qr (oN 4 [(8, vi (w64 (s98.2.1 + t114.2.1)))] [27, 26, 4, 6] ?_)))
       refine oe (bn (nt (qr (oN 2 [(27, vi (w64 (s98.1 + 1)))] [8, 26, 4, 6] ?_))))
       exact oe (ct h116 ((y117.1.1, y117.1.2), (y117.2.1.1, y117.2.1.2), (y117.2.2.1.1, y117.2.2.1.2), (y117.2.2.2.1.1, y117.2.2.2.1.2), (y117.2.2.2.2.1.1, y117.2.2.2.2.1.2), (y117.2.2.2.2.2.1, y117.2.2.2.2.2.2)) [27, 26, 8, 4, 6] [0, 0, 0, 0, 0, 0] 4)
     refine qx (nx (nx (bh ?_)))
     have h118 := leafB hd107 h113 h103
     exact mp ((s98.2.1, s98.2.2.1, s98.2.2.2.1, s98.2.2.2.2.1, s98.2.2.2.2.2.1, s98.2.2.2.2.2.2.1, s98.2.2.2.2.2.2.2.1, s98.2.2.2.2.2.2.2.2.1, s98.2.2.2.2.2.2.2.2.2.1, s98.2.2.2.2.2.2.2.2.2.2), ((y99.1.1, y99.1.2), (y99.2.1.1, y99.2.1.2), (y99.2.2.1.1, y99.2.2.1.2), (y99.2.2.2.1.1, y99.2.2.2.1.2), (y99.2.2.2.2.1.1, y99.2.2.2.2.1.2), (y99.2.2.2.2.2.1, y99.2.2.2.2.2.2))) h118 [8, 4, 6] [0, 0, 0, 0, 0, 0] 4
   have h110 := (congrFun hk105 _).symm.trans h110p
   refine nt (qs (qr (oB 4 [(5, vi y109.1.1)] [4] [(41, (eOffice x0 b0)), (66, (eAct x1)), (41, (eOffice (Office.mk (Case.mk (Book.mk y109.1.2.1) (Store.mk y109.1.2.2.1) (Series.mk y109.1.2.2.2.1) (Member.mk y109.1.2.2.2.2.1 y109.1.2.2.2.2.2.1 y109.1.2.2.2.2.2.2.1 y109.1.2.2.2.2.2.2.2.1)) y109.1.2.2.2.2.2.2.2.2.1 y109.1.2.2.2.2.2.2.2.2.2) y109.2)), (41, (eOffice (Office.mk (Case.mk (Book.mk y109.1.2.1) (Store.mk y109.1.2.2.1) (Series.mk y109.1.2.2.2.1) (Member.mk y109.1.2.2.2.2.1 y109.1.2.2.2.2.2.1 y109.1.2.2.2.2.2.2.1 y109.1.2.2.2.2.2.2.2.1)) y109.1.2.2.2.2.2.2.2.2.1 y109.1.2.2.2.2.2.2.2.2.2) y109.2))] ?_)))
   refine oe (nt (qe (nr (br (nr (rt [vOffice (Office.mk (Case.mk (Book.mk y109.1.2.1) (Store.mk y109.1.2.2.1) (Series.mk y109.1.2.2.2.1) (Member.mk y109.1.2.2.2.2.1 y109.1.2.2.2.2.2.1 y109.1.2.2.2.2.2.2.1 y109.1.2.2.2.2.2.2.2.1)) y109.1.2.2.2.2.2.2.2.2.1 y109.1.2.2.2.2.2.2.2.2.2) y109.2, .int .i64 y109.1.1] (fun γ w hs => ?_)))))))
   rw [← sI h110]
   exact ⟨(y109.2.1, y109.2.2.1, y109.2.2.2.1, y109.2.2.2.2.1, y109.2.2.2.2.2.1, y109.2.2.2.2.2.2), rfl, hs.kept.toBelow, (hs.takeR (is := [0, 0, 0, 0, 0, 0]) rfl).fresh⟩
 have h79 := (congrFun hk78 _).symm.trans h79p
 refine bn (nt (qs (qs (qr (oN 1 [(60, vb y76.1.1)] [4, 6] ?_)))))
 refine oe (nt (cC h79 (fun h81 => ?_) (fun h82 => ?_)))
 · refine qs (qr (oB 3 [(5, vi 1)] [4] [(41, (eOffice x0 b0)), (66, (eAct x1)), (41, (eOffice (Office.mk (Case.mk (Book.mk y76.1.2.1) (Store.mk y76.1.2.2.1) (Series.mk y76.1.2.2.2.1) (Member.mk y76.1.2.2.2.2.1 y76.1.2.2.2.2.2.1 y76.1.2.2.2.2.2.2.1 y76.1.2.2.2.2.2.2.2.1)) y76.1.2.2.2.2.2.2.2.2.1 y76.1.2.2.2.2.2.2.2.2.2) y76.2)), (41, (eOffice (Office.mk (Case.mk (Book.mk y76.1.2.1) (Store.mk y76.1.2.2.1) (Series.mk y76.1.2.2.2.1) (Member.mk y76.1.2.2.2.2.1 y76.1.2.2.2.2.2.1 y76.1.2.2.2.2.2.2.1 y76.1.2.2.2.2.2.2.2.1)) y76.1.2.2.2.2.2.2.2.2.1 y76.1.2.2.2.2.2.2.2.2.2) y76.2))] ?_))
   refine oe (nt (qe (nr (rt [vOffice (Office.mk (Case.mk (Book.mk y76.1.2.1) (Store.mk y76.1.2.2.1) (Series.mk y76.1.2.2.2.1) (Member.mk y76.1.2.2.2.2.1 y76.1.2.2.2.2.2.1 y76.1.2.2.2.2.2.2.1 y76.1.2.2.2.2.2.2.2.1)) y76.1.2.2.2.2.2.2.2.2.1 y76.1.2.2.2.2.2.2.2.2.2) y76.2, .int .i64 1] (fun γ w hs => ?_)))))
   rw [← sI h81]
   exact ⟨(y76.2.1, y76.2.2.1, y76.2.2.2.1, y76.2.2.2.2.1, y76.2.2.2.2.2.1, y76.2.2.2.2.2.2), rfl, hs.kept.toBelow, (hs.takeR (is := [0, 0, 0, 0, 0, 0]) rfl).fresh⟩
 refine qk (nt (qs (qr (oB 3 [(5, vi 0)] [4] [(41, (eOffice x0 b0)), (66, (eAct x1)), (41, (eOffice (Office.mk (Case.mk (Book.mk y76.1.2.1) (Store.mk y76.1.2.2.1) (Series.mk y76.1.2.2.2.1) (Member.mk y76.1.2.2.2.2.1 y76.1.2.2.2.2.2.1 y76.1.2.2.2.2.2.2.1 y76.1.2.2.2.2.2.2.2.1)) y76.1.2.2.2.2.2.2.2.2.1 y76.1.2.2.2.2.2.2.2.2.2) y76.2)), (41, (eOffice (Office.mk (Case.mk (Book.mk y76.1.2.1) (Store.mk y76.1.2.2.1) (Series.mk y76.1.2.2.2.1) (Member.mk y76.1.2.2.2.2.1 y76.1.2.2.2.2.2.1 y76.1.2.2.2.2.2.2.1 y76.1.2.2.2.2.2.2.2.1)) y76.1.2.2.2.2.2.2.2.2.1 y76.1.2.2.2.2.2.2.2.2.2) y76.2))] ?_))))
 refine oe (nt (qe (rt [vOffice (Office.mk (Case.mk (Book.mk y76.1.2.1) (Store.mk y76.1.2.2.1) (Series.mk y76.1.2.2.2.1) (Member.mk y76.1.2.2.2.2.1 y76.1.2.2.2.2.2.1 y76.1.2.2.2.2.2.2.1 y76.1.2.2.2.2.2.2.2.1)) y76.1.2.2.2.2.2.2.2.2.1 y76.1.2.2.2.2.2.2.2.2.2) y76.2, .int .i64 0] (fun γ w hs => ?_))))
 rw [← sI h82]
 exact ⟨(y76.2.1, y76.2.2.1, y76.2.2.2.1, y76.2.2.2.2.1, y76.2.2.2.2.2.1, y76.2.2.2.2.2.2), rfl, hs.kept.toBelow, (hs.takeR (is := [0, 0, 0, 0, 0, 0]) rfl).fresh⟩

theorem c_laws_FnTop {W : World} {x0 : List U8} {a0_0 : Option Addr} {c0_0 : Nat} {r : Bool} (h : laws_FnTop x0 = some r) (hv0_0 : SlView W x0 a0_0 c0_0) :
    Gives0 Tryz.prog 11 #[.slice a0_0 x0.length c0_0] W (.bool r) := by
 unfold laws_FnTop at h
 refine en Tryz.func11 Tryz.ntmps11 ?_
 refine qs (qr (oN 1 [] [0] ?_))
 refine oe (nt (qs (qs (qr (oN 1 [(19, .v (.slice a0_0 x0.length c0_0))] [0] ?_)))))
 obtain ⟨t21, h22, h23⟩ := bS h
 refine k0 (fun γ w hs => c_laws_big h22 (hv0_0.kept hs.kept)) ?_
 refine oe (nt (cC h23 (fun h26 => ?_) (fun h27 => ?_)))
 · refine qs (qr (oN 1 [(2, vb true)] [] ?_))
   refine oe (nt (qe (nr ?_)))
   obtain rfl := sI h26
   exact re [.bool true]
 refine qk (nt (qs (qr (oN 1 [(22, .v (.slice a0_0 x0.length c0_0))] [] ?_))))
 obtain ⟨t28, h29, h30⟩ := bS h27
 refine k1 (fun γ w hs => c_spec_DrawActs h29 (hv0_0.kept hs.kept)) (fun y31 => ?_)
 refine oB 8 [(5, .v (.slice y31.2.1 t28.2.2.length y31.2.2)), (4, vi t28.2.1), (3, .p 0 0)] [] [(38, (eCase t28.1 y31.1))] ?_
 refine oe (nt (qs (qr (oN 2 [(29, vi t28.2.1), (28, .v (vCase t28.1 y31.1))] [5, 4] ?_))))
 obtain ⟨t32, h33, h34⟩ := bS h30
 refine k1 (fun γ w hs => c_impl_OfficeNew (b0 := y31.1) h33 (hs.view 0 rfl) (hs.view 1 rfl) (hs.view 2 rfl) (hs.view 3 rfl) (hs.view 4 rfl)) (fun y35 => ?_)
 refine oB 6 [(7, vb t32.2), (6, .p 1 0)] [5, 4] [(38, (eCase t28.1 y31.1)), (41, (eOffice t32.1 y35))] ?_
 refine oe (nt (qs (qs (qr (oN 1 [(8, vi 0)] [7, 6, 5, 4] ?_)))))
 refine oe (nt ?_)
 obtain ⟨r39, hL40, h41⟩ := bS h34
 obtain ⟨k42, hk43, h41⟩ := brkS h41
 refine JC_cutP (τ := (Int × Int × (List Rule) × (List Fact) × (List Point) × Int × Int × (List Spell) × (List Event) × Int × (List Int)) × (AC × AC × AC × AC × AC × AC)) (fun y => k42 y.1 = some r) (fun y47 => [(7, vb t32.2)]) (fun y47 => [(38, (eCase (Case.mk t28.1.Book t28.1.Store t28.1.Series (Member.mk y47.1.1 y47.1.2.1 t28.1.Member.Spells t28.1.Member.Events)) y31.1)), (41, (eOffice (Office.mk (Case.mk (Book.mk y47.1.2.2.1) (Store.mk y47.1.2.2.2.1) (Series.mk y47.1.2.2.2.2.1) (Member.mk y47.1.2.2.2.2.2.1 y47.1.2.2.2.2.2.2.1 y47.1.2.2.2.2.2.2.2.1 y47.1.2.2.2.2.2.2.2.2.1)) y47.1.2.2.2.2.2.2.2.2.2.1 y47.1.2.2.2.2.2.2.2.2.2.2) y47.2))]) (fun y47 => [SlRes 76 t28.1.Book.Rules y31.1.1.1 y31.1.1.2, SlRes 47 t28.1.Store.Facts y31.1.2.1.1 y31.1.2.1.2, SlRes 52 t28.1.Series.Points y31.1.2.2.1.1 y31.1.2.2.1.2, SlRes 156 t28.1.Member.Spells y31.1.2.2.2.1.1 y31.1.2.2.2.1.2, SlRes 158 t28.1.Member.Events y31.1.2.2.2.2.1 y31.1.2.2.2.2.2, SlRes 76 y47.1.2.2.1 y47.2.1.1 y47.2.1.2, SlRes 47 y47.1.2.2.2.1 y47.2.2.1.1 y47.2.2.1.2, SlRes 52 y47.1.2.2.2.2.1 y47.2.2.2.1.1 y47.2.2.2.1.2, SlRes 156 y47.1.2.2.2.2.2.2.2.1 y47.2.2.2.2.1.1 y47.2.2.2.2.1.2, SlRes 158 y47.1.2.2.2.2.2.2.2.2.1 y47.2.2.2.2.2.1.1 y47.2.2.2.2.2.1.2, SlRes 3 y47.1.2.2.2.2.2.2.2.2.2.2 y47.2.2.2.2.2.2.1 y47.2.2.2.2.2.2.2]) ?_ (fun y47 h48p => ?_)
 · refine qb (lp (AC × AC × AC × AC × AC × AC) hL40 (fun s36 y37 => [(8, vi s36.1), (7, vb t32.2), (6, .p 1 0), (5, .v (.slice y31.2.1 t28.2.2.length y31.2.2)), (4, vi t28.2.1)]) (fun s36 y37 => [(38, (eCase t28.1 y31.1)), (41, (eOffice (Office.mk (Case.mk (Book.mk s36.2.1) (Store.mk s36.2.2.1) (Series.mk s36.2.2.2.1) (Member.mk s36.2.2.2.2.1 s36.2.2.2.2.2.1 s36.2.2.2.2.2.2.1 s36.2.2.2.2.2.2.2.1)) s36.2.2.2.2.2.2.2.2.1 s36.2.2.2.2.2.2.2.2.2) y37))]) (fun s36 y37 => [SlRes 66 t28.2.2 y31.2.1 y31.2.2, SlRes 76 t28.1.Book.Rules y31.1.1.1 y31.1.1.2, SlRes 47 t28.1.Store.Facts y31.1.2.1.1 y31.1.2.1.2, SlRes 52 t28.1.Series.Points y31.1.2.2.1.1 y31.1.2.2.1.2, SlRes 156 t28.1.Member.Spells y31.1.2.2.2.1.1 y31.1.2.2.2.1.2, SlRes 158 t28.1.Member.Events y31.1.2.2.2.2.1 y31.1.2.2.2.2.2, SlRes 76 s36.2.1 y37.1.1 y37.1.2, SlRes 47 s36.2.2.1 y37.2.1.1 y37.2.1.2, SlRes 52 s36.2.2.2.1 y37.2.2.1.1 y37.2.2.1.2, SlRes 156 s36.2.2.2.2.2.2.1 y37.2.2.2.1.1 y37.2.2.2.1.2, SlRes 158 s36.2.2.2.2.2.2.2.1 y37.2.2.2.2.1.1 y37.2.2.2.2.1.2, SlRes 3 s36.2.2.2.2.2.2.2.2.2 y37.2.2.2.2.2.1 y37.2.2.2.2.2.2]) ((y35.1.1, y35.1.2), (y35.2.1.1, y35.2.1.2), (y35.2.2.1.1, y35.2.2.1.2), (y35.2.2.2.1.1, y35.2.2.2.1.2), (y35.2.2.2.2.1.1, y35.2.2.2.2.1.2), (y35.2.2.2.2.2.1, y35.2.2.2.2.2.2)) [8, 7, 6, 5, 4] [11, 6, 6, 6, 6, 6, 0, 0, 0, 0, 0, 0] 2 (fun s36 y37 t38 h44 hd45 => ?_))
   refine qs (qs (qr (oN 4 [(36, vb (decide (s36.1 < (t28.2.2.length : Int))))] [8, 7, 6, 5, 4] ?_)))
   refine oe (nt (cC h44 (fun h50 => ?_) (fun h51 => ?_)))
   · refine qk (nt (qs (qb (qs (qr (oN 1 [(39, .v (vOffice (Office.mk (Case.mk (Book.mk s36.2.1) (Store.mk s36.2.2.1) (Series.mk s36.2.2.2.1) (Member.mk s36.2.2.2.2.1 s36.2.2.2.2.2.1 s36.2.2.2.2.2.2.1 s36.2.2.2.2.2.2.2.1)) s36.2.2.2.2.2.2.2.2.1 s36.2.2.2.2.2.2.2.2.2) y37))] [8, 7, 6, 5, 4] ?_))))))
     obtain ⟨t52, h53, h54⟩ := bS h50
     refine k0 (fun γ w hs => c_impl_DueNow (b0 := y37) h53 (hs.view 6 rfl) (hs.view 7 rfl) (hs.view 8 rfl) (hs.view 9 rfl) (hs.view 10 rfl) (hs.view 11 rfl)) ?_
     refine oN 1 [(9, vi t52)] [8, 7, 6, 5, 4] ?_
     refine oe (nt (qs (qr (oN 1 [(41, .v (vOffice (Office.mk (Case.mk (Book.mk s36.2.1) (Store.mk s36.2.2.1) (Series.mk s36.2.2.2.1) (Member.mk s36.2.2.2.2.1 s36.2.2.2.2.2.1 s36.2.2.2.2.2.2.1 s36.2.2.2.2.2.2.2.1)) s36.2.2.2.2.2.2.2.2.1 s36.2.2.2.2.2.2.2.2.2) y37))] [9, 8, 7, 6, 5, 4] ?_))))
     obtain ⟨t56, h57, h58⟩ := bS h54
     refine k0 (fun γ w hs => c_impl_PaidSum (b0 := y37) h57 (hs.view 6 rfl) (hs.view 7 rfl) (hs.view 8 rfl) (hs.view 9 rfl) (hs.view 10 rfl) (hs.view 11 rfl)) ?_
     refine oN 1 [(10, vi t56)] [9, 8, 7, 6, 5, 4] ?_
     refine oe (nt (qs (qr (oN 1 [(44, .v (vOffice (Office.mk (Case.mk (Book.mk s36.2.1) (Store.mk s36.2.2.1) (Series.mk s36.2.2.2.1) (Member.mk s36.2.2.2.2.1 s36.2.2.2.2.2.1 s36.2.2.2.2.2.2.1 s36.2.2.2.2.2.2.2.1)) s36.2.2.2.2.2.2.2.2.1 s36.2.2.2.2.2.2.2.2.2) y37))] [10, 9, 8, 7, 6, 5, 4] ?_))))
     obtain ⟨t60, h61, h62⟩ := bS h58
     refine k1 (fun γ w hs => c_impl_PayMonth (b0 := y37) h61 (hs.view 6 rfl) (hs.view 7 rfl) (hs.view 8 rfl) (hs.view 9 rfl) (hs.view 10 rfl) (hs.view 11 rfl)) (fun y63 => ?_)
     refine oB 8 [(13, vb t60.2.2), (12, vi t60.2.1), (11, .p 2 0)] [10, 9, 8, 7, 6, 5, 4] [(38, (eCase t28.1 y31.1)), (41, (eOffice (Office.mk (Case.mk (Book.mk s36.2.1) (Store.mk s36.2.2.1) (Series.mk s36.2.2.2.1) (Member.mk s36.2.2.2.2.1 s36.2.2.2.2.2.1 s36.2.2.2.2.2.2.1 s36.2.2.2.2.2.2.2.1)) s36.2.2.2.2.2.2.2.2.1 s36.2.2.2.2.2.2.2.2.2) y37)), (41, (eOffice t60.1 y63))] ?_
     refine oe (nt (qs (qs ?_)))
     obtain ⟨p64, hE65, h66⟩ := bS h62
     refine JC_cut (τ := Unit) (fun _ => [(4, vi t28.2.1), (5, .v (.slice y31.2.1 t28.2.2.length y31.2.2)), (6, .p 1 0), (7, vb t32.2), (8, vi s36.1), (9, vi t52), (10, vi t56), (11, .p 2 0), (12, vi t60.2.1), (64, vb p64)]) (fun _ => [(38, (eCase t28.1 y31.1)), (41, (eOffice (Office.mk (Case.mk (Book.mk s36.2.1) (Store.mk s36.2.2.1) (Series.mk s36.2.2.2.1) (Member.mk s36.2.2.2.2.1 s36.2.2.2.2.2.1 s36.2.2.2.2.2.2.1 s36.2.2.2.2.2.2.2.1)) s36.2.2.2.2.2.2.2.2.1 s36.2.2.2.2.2.2.2.2.2) y37)), (41, (eOffice t60.1 y63))]) (fun _ => [SlRes 66 t28.2.2 y31.2.1 y31.2.2, SlRes 76 t28.1.Book.Rules y31.1.1.1 y31.1.1.2, SlRes 47 t28.1.Store.Facts y31.1.2.1.1 y31.1.2.1.2, SlRes 52 t28.1.Series.Points y31.1.2.2.1.1 y31.1.2.2.1.2, SlRes 156 t28.1.Member.Spells y31.1.2.2.2.1.1 y31.1.2.2.2.1.2, SlRes 158 t28.1.Member.Events y31.1.2.2.2.2.1 y31.1.2.2.2.2.2, SlRes 76 s36.2.1 y37.1.1 y37.1.2, SlRes 47 s36.2.2.1 y37.2.1.1 y37.2.1.2, SlRes 52 s36.2.2.2.1 y37.2.2.1.1 y37.2.2.1.2, SlRes 156 s36.2.2.2.2.2.2.1 y37.2.2.2.1.1 y37.2.2.2.1.2, SlRes 158 s36.2.2.2.2.2.2.2.1 y37.2.2.2.2.1.1 y37.2.2.2.2.1.2, SlRes 3 s36.2.2.2.2.2.2.2.2.2 y37.2.2.2.2.2.1 y37.2.2.2.2.2.2, SlRes 76 t60.1.Case.Book.Rules y63.1.1 y63.1.2, SlRes 47 t60.1.Case.Store.Facts y63.2.1.1 y63.2.1.2, SlRes 52 t60.1.Case.Series.Points y63.2.2.1.1 y63.2.2.1.2, SlRes 156 t60.1.Case.Member.Spells y63.2.2.2.1.1 y63.2.2.2.1.2, SlRes 158 t60.1.Case.Member.Events y63.2.2.2.2.1.1 y63.2.2.2.2.1.2, SlRes 3 t60.1.Paid y63.2.2.2.2.2.1 y63.2.2.2.2.2.2]) ?_ (fun _ => ?_)
     · refine qr (oN 3 [(51, vb (!t60.2.2))] [12, 11, 10, 9, 8, 7, 6, 5, 4] ?_)
       refine oS 51 hE65 (fun h68 => ?_) (fun h69 => ?_)
       · refine oN 13 [(64, vb true)] [12, 11, 10, 9, 8, 7, 6, 5, 4] ?_
         refine oe ?_
         obtain rfl := sI h68
         exact mt () [4, 5, 6, 7, 8, 9, 10, 11, 12, 64] [6, 6, 6, 6, 6, 6, 6, 6, 6, 6, 6, 6, 0, 0, 0, 0, 0, 0] 3
       refine oN 6 [(57, vb (t60.2.1 != (imax 0 t52)))] [12, 11, 10, 9, 8, 7, 6, 5, 4] ?_
       refine oS 57 h69 (fun h71 => ?_) (fun h72 => ?_)
       · refine oN 7 [(64, vb true)] [12, 11, 10, 9, 8, 7, 6, 5, 4] ?_
         refine oe ?_
         obtain rfl := sI h71
         exact mt () [4, 5, 6, 7, 8, 9, 10, 11, 12, 64] [6, 6, 6, 6, 6, 6, 6, 6, 6, 6, 6, 6, 0, 0, 0, 0, 0, 0] 3
       refine oN 1 [(58, .v (vOffice t60.1 y63))] [57, 12, 11, 10, 9, 8, 7, 6, 5, 4] ?_
       obtain ⟨t73, h74, h75⟩ := bS h72
       refine k0 (fun γ w hs => c_impl_PaidSum (b0 := y63) h74 (hs.view 0 rfl) (hs.view 1 rfl) (hs.view 2 rfl) (hs.view 3 rfl) (hs.view 4 rfl) (hs.view 5 rfl)) ?_
       refine oN 5 [(64, vb (t73 != (w64 (t56 + t60.2.1))))] [12, 11, 10, 9, 8, 7, 6, 5, 4] ?_
       refine oe ?_
       obtain rfl := sI h75
       exact mt () [4, 5, 6, 7, 8, 9, 10, 11, 12, 64] [6, 6, 6, 6, 6, 6, 6, 6, 6, 6, 6, 6, 0, 0, 0, 0, 0, 0] 3
     refine nt (cC h66 (fun h78 => ?_) (fun h79 => ?_))
     · refine qs (qr (oN 1 [(2, vb false)] [] ?_))
       refine oe (nt (qe (nr (br (nr (nr ?_))))))
       have h80 := leafR hd45 h78 h41
       refine br (nr (nr ?_))
       obtain rfl := sI h80
       exact re [.bool false]
     refine qk (nt (qs (qr (oN 7 [(14, vi (w64 (s36.2.2.2.2.2.2.2.2.1 + (s36.2.2.2.2.2.2.2.2.2.length : Int))))] [4, 5, 6, 7, 8, 9, 10, 11, 12] ?_))))
     refine oe (nt (qs (qr (oN 1 [(15, vi 0)] [14, 4, 5, 6, 7, 8, 9, 10, 11, 12] ?_))))
     refine oe (nt (qs (qs (qr (oN 2 [(16, vi t28.2.1)] [15, 14, 4, 5, 6, 7, 8, 9, 10, 11, 12] ?_)))))
     refine oe (nt ?_)
     obtain ⟨r84, hL85, h86⟩ := bS h79
     obtain ⟨k87, hk88, h86⟩ := brkS h86
     refine JC_cutP (τ := (Int) × (Unit)) (fun y => k87 y.1 = some t38) (fun y92 => [(15, vi y92.1), (4, vi t28.2.1), (5, .v (.slice y31.2.1 t28.2.2.length y31.2.2)), (6, .p 1 0), (7, vb t32.2), (8, vi s36.1), (9, vi t52), (10, vi t56), (11, .p 2 0), (12, vi t60.2.1)]) (fun y92 => [(38, (eCase t28.1 y31.1)), (41, (eOffice (Office.mk (Case.mk (Book.mk s36.2.1) (Store.mk s36.2.2.1) (Series.mk s36.2.2.2.1) (Member.mk s36.2.2.2.2.1 s36.2.2.2.2.2.1 s36.2.2.2.2.2.2.1 s36.2.2.2.2.2.2.2.1)) s36.2.2.2.2.2.2.2.2.1 s36.2.2.2.2.2.2.2.2.2) y37)), (41, (eOffice t60.1 y63))]) (fun y92 => [SlRes 66 t28.2.2 y31.2.1 y31.2.2, SlRes 76 t28.1.Book.Rules y31.1.1.1 y31.1.1.2, SlRes 47 t28.1.Store.Facts y31.1.2.1.1 y31.1.2.1.2, SlRes 52 t28.1.Series.Points y31.1.2.2.1.1 y31.1.2.2.1.2, SlRes 156 t28.1.Member.Spells y31.1.2.2.2.1.1 y31.1.2.2.2.1.2, SlRes 158 t28.1.Member.Events y31.1.2.2.2.2.1 y31.1.2.2.2.2.2, SlRes 76 s36.2.1 y37.1.1 y37.1.2, SlRes 47 s36.2.2.1 y37.2.1.1 y37.2.1.2, SlRes 52 s36.2.2.2.1 y37.2.2.1.1 y37.2.2.1.2, SlRes 156 s36.2.2.2.2.2.2.1 y37.2.2.2.1.1 y37.2.2.2.1.2, SlRes 158 s36.2.2.2.2.2.2.2.1 y37.2.2.2.2.1.1 y37.2.2.2.2.1.2, SlRes 3 s36.2.2.2.2.2.2.2.2.2 y37.2.2.2.2.2.1 y37.2.2.2.2.2.2, SlRes 76 t60.1.Case.Book.Rules y63.1.1 y63.1.2, SlRes 47 t60.1.Case.Store.Facts y63.2.1.1 y63.2.1.2, SlRes 52 t60.1.Case.Series.Points y63.2.2.1.1 y63.2.2.1.2, SlRes 156 t60.1.Case.Member.Spells y63.2.2.2.1.1 y63.2.2.2.1.2, SlRes 158 t60.1.Case.Member.Events y63.2.2.2.2.1.1 y63.2.2.2.2.1.2, SlRes 3 t60.1.Paid y63.2.2.2.2.2.1 y63.2.2.2.2.2.2]) ?_ (fun y92 h93p => ?_)
     · refine qb (lp Unit hL85 (fun s81 y82 => [(16, vi s81.1), (15, vi s81.2), (14, vi (w64 (s36.2.2.2.2.2.2.2.2.1 + (s36.2.2.2.2.2.2.2.2.2.length : Int)))), (4, vi t28.2.1), (5, .v (.slice y31.2.1 t28.2.2.length y31.2.2)), (6, .p 1 0), (7, vb t32.2), (8, vi s36.1), (9, vi t52), (10, vi t56), (11, .p 2 0), (12, vi t60.2.1)]) (fun s81 y82 => [(38, (eCase t28.1 y31.1)), (41, (eOffice (Office.mk (Case.mk (Book.mk s36.2.1) (Store.mk s36.2.2.1) (Series.mk s36.2.2.2.1) (Member.mk s36.2.2.2.2.1 s36.2.2.2.2.2.1 s36.2.2.2.2.2.2.1 s36.2.2.2.2.2.2.2.1)) s36.2.2.2.2.2.2.2.2.1 s36.2.2.2.2.2.2.2.2.2) y37)), (41, (eOffice t60.1 y63))]) (fun s81 y82 => [SlRes 66 t28.2.2 y31.2.1 y31.2.2, SlRes 76 t28.1.Book.Rules y31.1.1.1 y31.1.1.2, SlRes 47 t28.1.Store.Facts y31.1.2.1.1 y31.1.2.1.2, SlRes 52 t28.1.Series.Points y31.1.2.2.1.1 y31.1.2.2.1.2, SlRes 156 t28.1.Member.Spells y31.1.2.2.2.1.1 y31.1.2.2.2.1.2, SlRes 158 t28.1.Member.Events y31.1.2.2.2.2.1 y31.1.2.2.2.2.2, SlRes 76 s36.2.1 y37.1.1 y37.1.2, SlRes 47 s36.2.2.1 y37.2.1.1 y37.2.1.2, SlRes 52 s36.2.2.2.1 y37.2.2.1.1 y37.2.2.1.2, SlRes 156 s36.2.2.2.2.2.2.1 y37.2.2.2.1.1 y37.2.2.2.1.2, SlRes 158 s36.2.2.2.2.2.2.2.1 y37.2.2.2.2.1.1 y37.2.2.2.2.1.2, SlRes 3 s36.2.2.2.2.2.2.2.2.2 y37.2.2.2.2.2.1 y37.2.2.2.2.2.2, SlRes 76 t60.1.Case.Book.Rules y63.1.1 y63.1.2, SlRes 47 t60.1.Case.Store.Facts y63.2.1.1 y63.2.1.2, SlRes 52 t60.1.Case.Series.Points y63.2.2.1.1 y63.2.2.1.2, SlRes 156 t60.1.Case.Member.Spells y63.2.2.2.1.1 y63.2.2.2.1.2, SlRes 158 t60.1.Case.Member.Events y63.2.2.2.2.1.1 y63.2.2.2.2.1.2, SlRes 3 t60.1.Paid y63.2.2.2.2.2.1 y63.2.2.2.2.2.2]) () [16, 15, 14, 4, 5, 6, 7, 8, 9, 10, 11, 12] [0, 0, 0, 0, 0, 0, 0, 0, 0, 0, 0, 0, 0, 0, 0, 0, 0, 0] 3 (fun s81 y82 t83 h89 hd90 => ?_))
       refine qs (qs (qr (oN 3 [(74, vb (decide (s81.1 ≤ (w64 (s36.2.2.2.2.2.2.2.2.1 + (s36.2.2.2.2.2.2.2.2.2.length : Int))))))] [16, 15, 14, 4, 5, 6, 7, 8, 9, 10, 11, 12] ?_)))
       refine oe (nt (cC h89 (fun h146 => ?_) (fun h147 => ?_)))
       · refine qk (nt (qs (qb (qr (oN 5 [(81, vi (w64 (s36.2.2.2.2.2.2.2.2.1 + (s36.2.2.2.2.2.2.2.2.2.length : Int)))), (80, vi s81.1), (79, .v (vCase (Case.mk (Book.mk s36.2.1) (Store.mk s36.2.2.1) (Series.mk s36.2.2.2.1) (Member.mk s36.2.2.2.2.1 s36.2.2.2.2.2.1 s36.2.2.2.2.2.2.1 s36.2.2.2.2.2.2.2.1)) (y37.1, y37.2.1, y37.2.2.1, y37.2.2.2.1, y37.2.2.2.2.1))), (77, vi s81.2)] [16, 14, 4, 5, 6, 7, 8, 9, 10, 11, 12] ?_)))))
         obtain ⟨t148, h149, h150⟩ := bS h146
         refine k0 (fun γ w hs => c_spec_EntitlementAt (b0 := (y37.1, y37.2.1, y37.2.2.1, y37.2.2.2.1, y37.2.2.2.2.1)) h149 (hs.view 6 rfl) (hs.view 7 rfl) (hs.view 8 rfl) (hs.view 9 rfl) (hs.view 10 rfl)) ?_
         refine oN 2 [(15, vi (w64 (s81.2 + t148)))] [16, 14, 4, 5, 6, 7, 8, 9, 10, 11, 12] ?_
         refine oe (bn (nt (qr (oN 3 [(16, vi (w64 (s81.1 + 1)))] [15, 14, 4, 5, 6, 7, 8, 9, 10, 11, 12] ?_))))
         exact oe (ct h150 () [16, 15, 14, 4, 5, 6, 7, 8, 9, 10, 11, 12] [0, 0, 0, 0, 0, 0, 0, 0, 0, 0, 0, 0, 0, 0, 0, 0, 0, 0] 3)
       refine qx (nx (nx (bh ?_)))
       have h152 := leafB hd90 h147 h86
       exact mp (s81.2, ()) h152 [15, 4, 5, 6, 7, 8, 9, 10, 11, 12] [0, 0, 0, 0, 0, 0, 0, 0, 0, 0, 0, 0, 0, 0, 0, 0, 0, 0] 3
     have h93 := (congrFun hk88 _).symm.trans h93p
     refine nt (qs (qs ?_))
     obtain ⟨p94, hE95, h96⟩ := bS h93
     refine JC_cut (τ := Unit) (fun _ => [(4, vi t28.2.1), (5, .v (.slice y31.2.1 t28.2.2.length y31.2.2)), (6, .p 1 0), (7, vb t32.2), (8, vi s36.1), (104, vb p94)]) (fun _ => [(38, (eCase t28.1 y31.1)), (41, (eOffice (Office.mk (Case.mk (Book.mk s36.2.1) (Store.mk s36.2.2.1) (Series.mk s36.2.2.2.1) (Member.mk s36.2.2.2.2.1 s36.2.2.2.2.2.1 s36.2.2.2.2.2.2.1 s36.2.2.2.2.2.2.2.1)) s36.2.2.2.2.2.2.2.2.1 s36.2.2.2.2.2.2.2.2.2) y37)), (41, (eOffice t60.1 y63))]) (fun _ => [SlRes 66 t28.2.2 y31.2.1 y31.2.2, SlRes 76 t28.1.Book.Rules y31.1.1.1 y31.1.1.2, SlRes 47 t28.1.Store.Facts y31.1.2.1.1 y31.1.2.1.2, SlRes 52 t28.1.Series.Points y31.1.2.2.1.1 y31.1.2.2.1.2, SlRes 156 t28.1.Member.Spells y31.1.2.2.2.1.1 y31.1.2.2.2.1.2, SlRes 158 t28.1.Member.Events y31.1.2.2.2.2.1 y31.1.2.2.2.2.2, SlRes 76 s36.2.1 y37.1.1 y37.1.2, SlRes 47 s36.2.2.1 y37.2.1.1 y37.2.1.2, SlRes 52 s36.2.2.2.1 y37.2.2.1.1 y37.2.2.1.2, SlRes 156 s36.2.2.2.2.2.2.1 y37.2.2.2.1.1 y37.2.2.2.1.2, SlRes 158 s36.2.2.2.2.2.2.2.1 y37.2.2.2.2.1.1 y37.2.2.2.2.1.2, SlRes 3 s36.2.2.2.2.2.2.2.2.2 y37.2.2.2.2.2.1 y37.2.2.2.2.2.2, SlRes 76 t60.1.Case.Book.Rules y63.1.1 y63.1.2, SlRes 47 t60.1.Case.Store.Facts y63.2.1.1 y63.2.1.2, SlRes 52 t60.1.Case.Series.Points y63.2.2.1.1 y63.2.2.1.2, SlRes 156 t60.1.Case.Member.Spells y63.2.2.2.1.1 y63.2.2.2.1.2, SlRes 158 t60.1.Case.Member.Events y63.2.2.2.2.1.1 y63.2.2.2.2.1.2, SlRes 3 t60.1.Paid y63.2.2.2.2.2.1 y63.2.2.2.2.2.2]) ?_ (fun _ => ?_)
     · refine qr (oN 3 [(86, vb (decide (t52 ≥ 0)))] [15, 4, 5, 6, 7, 8, 9, 10, 11, 12] ?_)
       refine oS 86 hE95 (fun h98 => ?_) (fun h99 => ?_)
       · refine oN 1 [(87, .v (vOffice t60.1 y63))] [86, 15, 4, 5, 6, 7, 8, 9, 10, 12] ?_
         obtain ⟨t100, h101, h102⟩ := bS h98
         refine k0 (fun γ w hs => c_impl_PaidSum (b0 := y63) h101 (hs.view 12 rfl) (hs.view 13 rfl) (hs.view 14 rfl) (hs.view 15 rfl) (hs.view 16 rfl) (hs.view 17 rfl)) ?_
         refine oN 4 [(92, vb (t100 != y92.1))] [15, 4, 5, 6, 7, 8, 9, 10, 12] ?_
         refine oS 92 h102 (fun h105 => ?_) (fun h106 => ?_)
         · refine oN 12 [(104, vb true)] [4, 5, 6, 7, 8] ?_
           refine oe ?_
           obtain rfl := sI h105
           exact mt () [4, 5, 6, 7, 8, 104] [0, 0, 0, 0, 0, 0, 0, 0, 0, 0, 0, 0, 0, 0, 0, 0, 0, 0] 3
         refine oN 3 [(95, vb (decide (t52 < 0)))] [92, 15, 4, 5, 6, 7, 8, 10, 12] ?_
         refine oS 95 h106 (fun h108 => ?_) (fun h109 => ?_)
         · refine oN 3 [(98, vb (t60.2.1 != 0))] [95, 92, 15, 4, 5, 6, 7, 8, 10] ?_
           refine oS 98 h108 (fun h111 => ?_) (fun h112 => ?_)
           · refine oN 6 [(104, vb true)] [4, 5, 6, 7, 8] ?_
             refine oe ?_
             obtain rfl := sI h111
             exact mt () [4, 5, 6, 7, 8, 104] [0, 0, 0, 0, 0, 0, 0, 0, 0, 0, 0, 0, 0, 0, 0, 0, 0, 0] 3
           refine oN 6 [(104, vb (decide (t56 ≤ y92.1)))] [4, 5, 6, 7, 8] ?_
           refine oe ?_
           obtain rfl := sI h112
           exact mt () [4, 5, 6, 7, 8, 104] [0, 0, 0, 0, 0, 0, 0, 0, 0, 0, 0, 0, 0, 0, 0, 0, 0, 0] 3
         refine oN 9 [(104, vb false)] [4, 5, 6, 7, 8] ?_
         refine oe ?_
         obtain rfl := sI h109
         exact mt () [4, 5, 6, 7, 8, 104] [0, 0, 0, 0, 0, 0, 0, 0, 0, 0, 0, 0, 0, 0, 0, 0, 0, 0] 3
       refine oN 9 [(95, vb (decide (t52 < 0))), (92, vb false)] [15, 4, 5, 6, 7, 8, 10, 12] ?_
       refine oS 95 h99 (fun h114 => ?_) (fun h115 => ?_)
       · refine oN 3 [(98, vb (t60.2.1 != 0))] [95, 92, 15, 4, 5, 6, 7, 8, 10] ?_
         refine oS 98 h114 (fun h117 => ?_) (fun h118 => ?_)
         · refine oN 6 [(104, vb true)] [4, 5, 6, 7, 8] ?_
           refine oe ?_
           obtain rfl := sI h117
           exact mt () [4, 5, 6, 7, 8, 104] [0, 0, 0, 0, 0, 0, 0, 0, 0, 0, 0, 0, 0, 0, 0, 0, 0, 0] 3
         refine oN 6 [(104, vb (decide (t56 ≤ y92.1)))] [4, 5, 6, 7, 8] ?_
         refine oe ?_
         obtain rfl := sI h118
         exact mt () [4, 5, 6, 7, 8, 104] [0, 0, 0, 0, 0, 0, 0, 0, 0, 0, 0, 0, 0, 0, 0, 0, 0, 0] 3
       refine oN 9 [(104, vb false)] [4, 5, 6, 7, 8] ?_
       refine oe ?_
       obtain rfl := sI h115
       exact mt () [4, 5, 6, 7, 8, 104] [0, 0, 0, 0, 0, 0, 0, 0, 0, 0, 0, 0, 0, 0, 0, 0, 0, 0] 3
     refine nt (cC h96 (fun h120 => ?_) (fun h121 => ?_))
     · refine qs (qr (oN 1 [(2, vb false)] [] ?_))
       refine oe (nt (qe (nr (br (nr (nr ?_))))))
       have h122 := leafR hd45 h120 h41
       refine br (nr (nr ?_))
       obtain rfl := sI h122
       exact re [.bool false]
     refine qk (nt (qs ?_))
     obtain ⟨x123, hx124, h125⟩ := bS h121
     obtain ⟨t126, h127, h128⟩ := bS h125
     refine JC_cut (τ := (AC × AC × AC × AC × AC × AC)) (fun y130 => [(18, vi t126.2), (17, .p 3 0), (4, vi t28.2.1), (5, .v (.slice y31.2.1 t28.2.2.length y31.2.2)), (6, .p 1 0), (7, vb t32.2), (8, vi s36.1)]) (fun y130 => [(38, (eCase t28.1 y31.1)), (41, (eOffice (Office.mk (Case.mk (Book.mk s36.2.1) (Store.mk s36.2.2.1) (Series.mk s36.2.2.2.1) (Member.mk s36.2.2.2.2.1 s36.2.2.2.2.2.1 s36.2.2.2.2.2.2.1 s36.2.2.2.2.2.2.2.1)) s36.2.2.2.2.2.2.2.2.1 s36.2.2.2.2.2.2.2.2.2) y37)), (41, (eOffice t60.1 y63)), (41, (eOffice t126.1 y130))]) (fun y130 => [SlRes 76 t126.1.Case.Book.Rules y130.1.1 y130.1.2, SlRes 47 t126.1.Case.Store.Facts y130.2.1.1 y130.2.1.2, SlRes 52 t126.1.Case.Series.Points y130.2.2.1.1 y130.2.2.1.2, SlRes 156 t126.1.Case.Member.Spells y130.2.2.2.1.1 y130.2.2.2.1.2, SlRes 158 t126.1.Case.Member.Events y130.2.2.2.2.1.1 y130.2.2.2.2.1.2, SlRes 3 t126.1.Paid y130.2.2.2.2.2.1 y130.2.2.2.2.2.2, SlRes 66 t28.2.2 y31.2.1 y31.2.2, SlRes 76 t28.1.Book.Rules y31.1.1.1 y31.1.1.2, SlRes 47 t28.1.Store.Facts y31.1.2.1.1 y31.1.2.1.2, SlRes 52 t28.1.Series.Points y31.1.2.2.1.1 y31.1.2.2.1.2, SlRes 156 t28.1.Member.Spells y31.1.2.2.2.1.1 y31.1.2.2.2.1.2, SlRes 158 t28.1.Member.Events y31.1.2.2.2.2.1 y31.1.2.2.2.2.2, SlRes 76 s36.2.1 y37.1.1 y37.1.2, SlRes 47 s36.2.2.1 y37.2.1.1 y37.2.1.2, SlRes 52 s36.2.2.2.1 y37.2.2.1.1 y37.2.2.1.2, SlRes 156 s36.2.2.2.2.2.2.1 y37.2.2.2.1.1 y37.2.2.2.1.2, SlRes 158 s36.2.2.2.2.2.2.2.1 y37.2.2.2.2.1.1 y37.2.2.2.2.1.2, SlRes 3 s36.2.2.2.2.2.2.2.2.2 y37.2.2.2.2.2.1 y37.2.2.2.2.2.2, SlRes 76 t60.1.Case.Book.Rules y63.1.1 y63.1.2, SlRes 47 t60.1.Case.Store.Facts y63.2.1.1 y63.2.1.2, SlRes 52 t60.1.Case.Series.Points y63.2.2.1.1 y63.2.2.1.2, SlRes 156 t60.1.Case.Member.Spells y63.2.2.2.1.1 y63.2.2.2.1.2, SlRes 158 t60.1.Case.Member.Events y63.2.2.2.2.1.1 y63.2.2.2.2.1.2, SlRes 3 t60.1.Paid y63.2.2.2.2.2.1 y63.2.2.2.2.2.2]) ?_ (fun y130 => ?_)
     · refine JC_weak [4, 5, 6, 7, 8] [0, 0, 0, 0, 0, 0, 0, 0, 0, 0, 0, 0, 0, 0, 0, 0, 0, 0] 3 (sl' := [(4, vi t28.2.1), (5, .v (.slice y31.2.1 t28.2.2.length y31.2.2)), (6, .p 1 0), (7, vb t32.2), (8, vi s36.1)]) (bx' := [(38, (eCase t28.1 y31.1)), (41, (eOffice (Office.mk (Case.mk (Book.mk s36.2.1) (Store.mk s36.2.2.1) (Series.mk s36.2.2.2.1) (Member.mk s36.2.2.2.2.1 s36.2.2.2.2.2.1 s36.2.2.2.2.2.2.1 s36.2.2.2.2.2.2.2.1)) s36.2.2.2.2.2.2.2.2.1 s36.2.2.2.2.2.2.2.2.2) y37)), (41, (eOffice t60.1 y63))]) (R' := [SlRes 66 t28.2.2 y31.2.1 y31.2.2, SlRes 76 t28.1.Book.Rules y31.1.1.1 y31.1.1.2, SlRes 47 t28.1.Store.Facts y31.1.2.1.1 y31.1.2.1.2, SlRes 52 t28.1.Series.Points y31.1.2.2.1.1 y31.1.2.2.1.2, SlRes 156 t28.1.Member.Spells y31.1.2.2.2.1.1 y31.1.2.2.2.1.2, SlRes 158 t28.1.Member.Events y31.1.2.2.2.2.1 y31.1.2.2.2.2.2, SlRes 76 s36.2.1 y37.1.1 y37.1.2, SlRes 47 s36.2.2.1 y37.2.1.1 y37.2.1.2, SlRes 52 s36.2.2.2.1 y37.2.2.1.1 y37.2.2.1.2, SlRes 156 s36.2.2.2.2.2.2.1 y37.2.2.2.1.1 y37.2.2.2.1.2, SlRes 158 s36.2.2.2.2.2.2.2.1 y37.2.2.2.2.1.1 y37.2.2.2.2.1.2, SlRes 3 s36.2.2.2.2.2.2.2.2.2 y37.2.2.2.2.2.1 y37.2.2.2.2.2.2, SlRes 76 t60.1.Case.Book.Rules y63.1.1 y63.1.2, SlRes 47 t60.1.Case.Store.Facts y63.2.1.1 y63.2.1.2, SlRes 52 t60.1.Case.Series.Points y63.2.2.1.1 y63.2.2.1.2, SlRes 156 t60.1.Case.Member.Spells y63.2.2.2.1.1 y63.2.2.2.1.2, SlRes 158 t60.1.Case.Member.Events y63.2.2.2.2.1.1 y63.2.2.2.2.1.2, SlRes 3 t60.1.Paid y63.2.2.2.2.2.1 y63.2.2.2.2.2.2]) (by kernel_rfl) (by kernel_rfl) (by kernel_rfl) (by kernel_rfl) ?_
       refine JC_heldN (ks := [0, 1, 2]) (Rk := [SlRes 66 t28.2.2 y31.2.1 y31.2.2, SlRes 76 t28.1.Book.Rules y31.1.1.1 y31.1.1.2, SlRes 47 t28.1.Store.Facts y31.1.2.1.1 y31.1.2.1.2, SlRes 52 t28.1.Series.Points y31.1.2.2.1.1 y31.1.2.2.1.2, SlRes 156 t28.1.Member.Spells y31.1.2.2.2.1.1 y31.1.2.2.2.1.2, SlRes 158 t28.1.Member.Events y31.1.2.2.2.2.1 y31.1.2.2.2.2.2, SlRes 76 s36.2.1 y37.1.1 y37.1.2, SlRes 47 s36.2.2.1 y37.2.1.1 y37.2.1.2, SlRes 52 s36.2.2.2.1 y37.2.2.1.1 y37.2.2.1.2, SlRes 156 s36.2.2.2.2.2.2.1 y37.2.2.2.1.1 y37.2.2.2.1.2, SlRes 158 s36.2.2.2.2.2.2.2.1 y37.2.2.2.2.1.1 y37.2.2.2.2.1.2, SlRes 3 s36.2.2.2.2.2.2.2.2.2 y37.2.2.2.2.2.1 y37.2.2.2.2.2.2, SlRes 76 t60.1.Case.Book.Rules y63.1.1 y63.1.2, SlRes 47 t60.1.Case.Store.Facts y63.2.1.1 y63.2.1.2, SlRes 52 t60.1.Case.Series.Points y63.2.2.1.1 y63.2.2.1.2, SlRes 156 t60.1.Case.Member.Spells y63.2.2.2.1.1 y63.2.2.2.1.2, SlRes 158 t60.1.Case.Member.Events y63.2.2.2.2.1.1 y63.2.2.2.2.1.2, SlRes 3 t60.1.Paid y63.2.2.2.2.2.1 y63.2.2.2.2.2.2]) 12 (by kernel_rfl) (by kernel_rfl) ?_
       refine htq 0 (.v (vOffice (Office.mk (Case.mk (Book.mk s36.2.1) (Store.mk s36.2.2.1) (Series.mk s36.2.2.2.1) (Member.mk s36.2.2.2.2.1 s36.2.2.2.2.2.1 s36.2.2.2.2.2.2.1 s36.2.2.2.2.2.2.2.1)) s36.2.2.2.2.2.2.2.2.1 s36.2.2.2.2.2.2.2.2.2) y37)) [0, 0, 0, 0, 0, 0, 0, 0, 0, 0, 0, 0, 0, 0, 0, 0, 0, 0] ?_
       refine htq 1 (.v (.slice y31.2.1 t28.2.2.length y31.2.2)) [0, 0, 0, 0, 0, 0, 0, 0, 0, 0, 0, 0, 0, 0, 0, 0, 0, 0] ?_
       refine htq 2 (vi s36.1) [0, 0, 0, 0, 0, 0, 0, 0, 0, 0, 0, 0, 0, 0, 0, 0, 0, 0] ?_
       refine ht 3 (.q y31.2.1 (Int.toNat s36.1 * 10)) [0, 0, 0, 0, 0, 0, 0, 0, 0, 0, 0, 0, 0, 0, 0, 0, 0, 0] (index_held (d := y31.2.1) (m := t28.2.2.length) (j := s36.1) (s := 10) (by kernel_rfl) (fun γ0 w hs => (hs.view 0 rfl)) rfl hx124) ?_
       refine hk [109, 106, 4, 5, 6, 7, 8] ?_
       refine ht 4 (.v (vAct x123)) [0, 0, 0, 0, 0, 0, 0, 0, 0, 0, 0, 0, 0, 0, 0, 0, 0, 0] (loadq_held (t := 66) (d := y31.2.1) (Int.toNat s36.1 * 10) 0 (by kernel_rfl) (cs := (eAct x123)) (v := vAct x123) (fun γ0 w hs => (hs.view 0 rfl).flatq hx124) (by kernel_rfl)) ?_
       refine hk [110, 106, 4, 5, 6, 7, 8] ?_
       refine ha2 5 9 ?_ ?_
       · refine hi (fun γ0 δ hm => ?_)
         refine g1 (fun w hs => c_impl_DoAct (b0 := y37) h127 (hs.view 6 rfl) (hs.view 7 rfl) (hs.view 8 rfl) (hs.view 9 rfl) (hs.view 10 rfl) (hs.view 11 rfl)) (fun y129 => ?_)
         refine gn hm [111, 4, 5, 6, 7, 8] [6, 6, 6, 6, 6, 6, 6, 6, 6, 6, 6, 6, 6, 6, 6, 6, 6, 6] ?_
         refine htq 6 (.v (.tuple #[vOffice t126.1 y129, .int .i64 t126.2])) [6, 6, 6, 6, 6, 6, 6, 6, 6, 6, 6, 6, 6, 6, 6, 6, 6, 6] ?_
         refine hk [105, 4, 5, 6, 7, 8] ?_
         refine htq 7 (.v (vOffice t126.1 y129)) [6, 6, 6, 6, 6, 6, 6, 6, 6, 6, 6, 6, 6, 6, 6, 6, 6, 6] ?_
         refine htq 8 (vi t126.2) [6, 6, 6, 6, 6, 6, 6, 6, 6, 6, 6, 6, 6, 6, 6, 6, 6, 6] ?_
         refine hk [113, 112, 4, 5, 6, 7, 8] ?_
         refine ha1 9 ?_
         refine hi (fun γ0 δ hm => ?_)
         refine gs [(17, .p 3 0), (113, vi t126.2), (112, .v (vOffice t126.1 y129)), (4, vi t28.2.1), (5, .v (.slice y31.2.1 t28.2.2.length y31.2.2)), (6, .p 1 0), (7, vb t32.2), (8, vi s36.1)] [(38, (eCase t28.1 y31.1)), (41, (eOffice (Office.mk (Case.mk (Book.mk s36.2.1) (Store.mk s36.2.2.1) (Series.mk s36.2.2.2.1) (Member.mk s36.2.2.2.2.1 s36.2.2.2.2.2.1 s36.2.2.2.2.2.2.1 s36.2.2.2.2.2.2.2.1)) s36.2.2.2.2.2.2.2.2.1 s36.2.2.2.2.2.2.2.2.2) y37)), (41, (eOffice t60.1 y63)), (41, [.slice none 0 0, .slice none 0 0, .slice none 0 0, .int .i64 0, .int .i64 0, .slice none 0 0, .slice none 0 0, .int .i64 0, .slice none 0 0])] (fun δ2 => ?_)
         refine gd hm [17, 113, 112, 4, 5, 6, 7, 8] [6, 6, 6, 6, 6, 6, 6, 6, 6, 6, 6, 6, 6, 6, 6, 6, 6, 6] ?_
         refine ha1 10 ?_
         refine hi (fun γ0 δ hm => ?_)
         refine gs [(17, .p 3 0), (113, vi t126.2), (112, .v (vOffice t126.1 y129)), (4, vi t28.2.1), (5, .v (.slice y31.2.1 t28.2.2.length y31.2.2)), (6, .p 1 0), (7, vb t32.2), (8, vi s36.1)] [(38, (eCase t28.1 y31.1)), (41, (eOffice (Office.mk (Case.mk (Book.mk s36.2.1) (Store.mk s36.2.2.1) (Series.mk s36.2.2.2.1) (Member.mk s36.2.2.2.2.1 s36.2.2.2.2.2.1 s36.2.2.2.2.2.2.1 s36.2.2.2.2.2.2.2.1)) s36.2.2.2.2.2.2.2.2.1 s36.2.2.2.2.2.2.2.2.2) y37)), (41, (eOffice t60.1 y63)), (41, (eOffice t126.1 y129))] (fun δ2 => ?_)
         refine gd hm [17, 113, 4, 5, 6, 7, 8] [6, 6, 6, 6, 6, 6, 6, 6, 6, 6, 6, 6, 6, 6, 6, 6, 6, 6] ?_
         refine htq 11 (vi t126.2) [6, 6, 6, 6, 6, 6, 6, 6, 6, 6, 6, 6, 6, 6, 6, 6, 6, 6] ?_
         refine hk [18, 17, 4, 5, 6, 7, 8] ?_
         exact hd y129 [18, 17, 4, 5, 6, 7, 8] [0, 0, 0, 0, 0, 0, 0, 0, 0, 0, 0, 0, 0, 0, 0, 0, 0, 0, 0, 0, 0, 0, 0, 0] 4
       · refine hi (fun γ0 δ hm => ?_)
         refine gs [(17, .p 3 0), (110, .v (vAct x123)), (106, .v (vOffice (Office.mk (Case.mk (Book.mk s36.2.1) (Store.mk s36.2.2.1) (Series.mk s36.2.2.2.1) (Member.mk s36.2.2.2.2.1 s36.2.2.2.2.2.1 s36.2.2.2.2.2.2.1 s36.2.2.2.2.2.2.2.1)) s36.2.2.2.2.2.2.2.2.1 s36.2.2.2.2.2.2.2.2.2) y37)), (4, vi t28.2.1), (5, .v (.slice y31.2.1 t28.2.2.length y31.2.2)), (6, .p 1 0), (7, vb t32.2), (8, vi s36.1)] [(38, (eCase t28.1 y31.1)), (41, (eOffice (Office.mk (Case.mk (Book.mk s36.2.1) (Store.mk s36.2.2.1) (Series.mk s36.2.2.2.1) (Member.mk s36.2.2.2.2.1 s36.2.2.2.2.2.1 s36.2.2.2.2.2.2.1 s36.2.2.2.2.2.2.2.1)) s36.2.2.2.2.2.2.2.2.1 s36.2.2.2.2.2.2.2.2.2) y37)), (41, (eOffice t60.1 y63)), (41, [.slice none 0 0, .slice none 0 0, .slice none 0 0, .int .i64 0, .int .i64 0, .slice none 0 0, .slice none 0 0, .int .i64 0, .slice none 0 0])] (fun δ2 => ?_)
         refine gd hm [17, 110, 106, 4, 5, 6, 7, 8] [0, 0, 0, 0, 0, 0, 0, 0, 0, 0, 0, 0, 0, 0, 0, 0, 0, 0] ?_
         refine ha1 5 ?_
         refine hi (fun γ0 δ hm => ?_)
         refine g1 (fun w hs => c_impl_DoAct (b0 := y37) h127 (hs.view 6 rfl) (hs.view 7 rfl) (hs.view 8 rfl) (hs.view 9 rfl) (hs.view 10 rfl) (hs.view 11 rfl)) (fun y129 => ?_)
         refine gn hm [111, 17, 4, 5, 6, 7, 8] [6, 6, 6, 6, 6, 6, 6, 6, 6, 6, 6, 6, 6, 6, 6, 6, 6, 6] ?_
         refine htq 6 (.v (.tuple #[vOffice t126.1 y129, .int .i64 t126.2])) [6, 6, 6, 6, 6, 6, 6, 6, 6, 6, 6, 6, 6, 6, 6, 6, 6, 6] ?_
         refine hk [105, 17, 4, 5, 6, 7, 8] ?_
         refine htq 7 (.v (vOffice t126.1 y129)) [6, 6, 6, 6, 6, 6, 6, 6, 6, 6, 6, 6, 6, 6, 6, 6, 6, 6] ?_
         refine htq 8 (vi t126.2) [6, 6, 6, 6, 6, 6, 6, 6, 6, 6, 6, 6, 6, 6, 6, 6, 6, 6] ?_
         refine hk [113, 112, 17, 4, 5, 6, 7, 8] ?_
         refine ha1 10 ?_
         refine hi (fun γ0 δ hm => ?_)
         refine gs [(113, vi t126.2), (112, .v (vOffice t126.1 y129)), (17, .p 3 0), (4, vi t28.2.1), (5, .v (.slice y31.2.1 t28.2.2.length y31.2.2)), (6, .p 1 0), (7, vb t32.2), (8, vi s36.1)] [(38, (eCase t28.1 y31.1)), (41, (eOffice (Office.mk (Case.mk (Book.mk s36.2.1) (Store.mk s36.2.2.1) (Series.mk s36.2.2.2.1) (Member.mk s36.2.2.2.2.1 s36.2.2.2.2.2.1 s36.2.2.2.2.2.2.1 s36.2.2.2.2.2.2.2.1)) s36.2.2.2.2.2.2.2.2.1 s36.2.2.2.2.2.2.2.2.2) y37)), (41, (eOffice t60.1 y63)), (41, (eOffice t126.1 y129))] (fun δ2 => ?_)
         refine gd hm [113, 17, 4, 5, 6, 7, 8] [6, 6, 6, 6, 6, 6, 6, 6, 6, 6, 6, 6, 6, 6, 6, 6, 6, 6] ?_
         refine htq 11 (vi t126.2) [6, 6, 6, 6, 6, 6, 6, 6, 6, 6, 6, 6, 6, 6, 6, 6, 6, 6] ?_
         refine hk [18, 17, 4, 5, 6, 7, 8] ?_
         exact hd y129 [18, 17, 4, 5, 6, 7, 8] [0, 0, 0, 0, 0, 0, 0, 0, 0, 0, 0, 0, 0, 0, 0, 0, 0, 0, 0, 0, 0, 0, 0, 0] 4
     refine nt (qs (qs ?_))
     obtain ⟨p131, hE132, h133⟩ := bS h128
     refine JC_cut (τ := Unit) (fun _ => [(4, vi t28.2.1), (5, .v (.slice y31.2.1 t28.2.2.length y31.2.2)), (6, .p 1 0), (7, vb t32.2), (8, vi s36.1), (17, .p 3 0), (120, vb p131)]) (fun _ => [(38, (eCase t28.1 y31.1)), (41, (eOffice (Office.mk (Case.mk (Book.mk s36.2.1) (Store.mk s36.2.2.1) (Series.mk s36.2.2.2.1) (Member.mk s36.2.2.2.2.1 s36.2.2.2.2.2.1 s36.2.2.2.2.2.2.1 s36.2.2.2.2.2.2.2.1)) s36.2.2.2.2.2.2.2.2.1 s36.2.2.2.2.2.2.2.2.2) y37)), (41, (eOffice t60.1 y63)), (41, (eOffice t126.1 y130))]) (fun _ => [SlRes 66 t28.2.2 y31.2.1 y31.2.2, SlRes 76 t28.1.Book.Rules y31.1.1.1 y31.1.1.2, SlRes 47 t28.1.Store.Facts y31.1.2.1.1 y31.1.2.1.2, SlRes 52 t28.1.Series.Points y31.1.2.2.1.1 y31.1.2.2.1.2, SlRes 156 t28.1.Member.Spells y31.1.2.2.2.1.1 y31.1.2.2.2.1.2, SlRes 158 t28.1.Member.Events y31.1.2.2.2.2.1 y31.1.2.2.2.2.2, SlRes 76 s36.2.1 y37.1.1 y37.1.2, SlRes 47 s36.2.2.1 y37.2.1.1 y37.2.1.2, SlRes 52 s36.2.2.2.1 y37.2.2.1.1 y37.2.2.1.2, SlRes 156 s36.2.2.2.2.2.2.1 y37.2.2.2.1.1 y37.2.2.2.1.2, SlRes 158 s36.2.2.2.2.2.2.2.1 y37.2.2.2.2.1.1 y37.2.2.2.2.1.2, SlRes 3 s36.2.2.2.2.2.2.2.2.2 y37.2.2.2.2.2.1 y37.2.2.2.2.2.2, SlRes 76 t60.1.Case.Book.Rules y63.1.1 y63.1.2, SlRes 47 t60.1.Case.Store.Facts y63.2.1.1 y63.2.1.2, SlRes 52 t60.1.Case.Series.Points y63.2.2.1.1 y63.2.2.1.2, SlRes 156 t60.1.Case.Member.Spells y63.2.2.2.1.1 y63.2.2.2.1.2, SlRes 158 t60.1.Case.Member.Events y63.2.2.2.2.1.1 y63.2.2.2.2.1.2, SlRes 3 t60.1.Paid y63.2.2.2.2.2.1 y63.2.2.2.2.2.2, SlRes 76 t126.1.Case.Book.Rules y130.1.1 y130.1.2, SlRes 47 t126.1.Case.Store.Facts y130.2.1.1 y130.2.1.2, SlRes 52 t126.1.Case.Series.Points y130.2.2.1.1 y130.2.2.1.2, SlRes 156 t126.1.Case.Member.Spells y130.2.2.2.1.1 y130.2.2.2.1.2, SlRes 158 t126.1.Case.Member.Events y130.2.2.2.2.1.1 y130.2.2.2.2.1.2, SlRes 3 t126.1.Paid y130.2.2.2.2.2.1 y130.2.2.2.2.2.2]) ?_ (fun _ => ?_)
     · refine qr (oN 3 [(116, vb (decide (t126.2 < 0)))] [17, 4, 5, 6, 7, 8] ?_)
       refine oS 116 hE132 (fun h135 => ?_) (fun h136 => ?_)
       · refine oN 4 [(120, vb true)] [17, 4, 5, 6, 7, 8] ?_
         refine oe ?_
         obtain rfl := sI h135
         exact mt () [4, 5, 6, 7, 8, 17, 120] [6, 6, 6, 6, 6, 6, 6, 6, 6, 6, 6, 6, 6, 6, 6, 6, 6, 6, 0, 0, 0, 0, 0, 0] 4
       refine oN 1 [(117, .v (vOffice t126.1 y130))] [116, 17, 4, 5, 6, 7, 8] ?_
       obtain ⟨t137, h138, h139⟩ := bS h136
       refine k0 (fun γ w hs => c_impl_OfficeOk (b0 := y130) h138 (hs.view 0 rfl) (hs.view 1 rfl) (hs.view 2 rfl) (hs.view 3 rfl) (hs.view 4 rfl) (hs.view 5 rfl)) ?_
       refine oN 2 [(120, vb (!t137))] [17, 4, 5, 6, 7, 8] ?_
       refine oe ?_
       obtain rfl := sI h139
       exact mt () [4, 5, 6, 7, 8, 17, 120] [6, 6, 6, 6, 6, 6, 6, 6, 6, 6, 6, 6, 6, 6, 6, 6, 6, 6, 0, 0, 0, 0, 0, 0] 4
     refine nt (cC h133 (fun h142 => ?_) (fun h143 => ?_))
     · refine qs (qr (oN 1 [(2, vb false)] [] ?_))
       refine oe (nt (qe (nr (br (nr (nr ?_))))))
       have h144 := leafR hd45 h142 h41
       refine br (nr (nr ?_))
       obtain rfl := sI h144
       exact re [.bool false]
     refine qk (nt (qr (oB 2 [] [4, 5, 6, 7, 8] [(38, (eCase t28.1 y31.1)), (41, (eOffice t126.1 y130)), (41, (eOffice t60.1 y63)), (41, (eOffice t126.1 y130))] ?_)))
     refine oe (bn (nt (qr (oN 3 [(8, vi (w64 (s36.1 + 1)))] [4, 5, 6, 7] ?_))))
     exact oe (ct h143 ((y130.1.1, y130.1.2), (y130.2.1.1, y130.2.1.2), (y130.2.2.1.1, y130.2.2.1.2), (y130.2.2.2.1.1, y130.2.2.2.1.2), (y130.2.2.2.2.1.1, y130.2.2.2.2.1.2), (y130.2.2.2.2.2.1, y130.2.2.2.2.2.2)) [8, 7, 6, 5, 4] [0, 0, 0, 0, 0, 0, 12, 12, 12, 12, 12, 12] 2)
   refine qx (nx (nx (bh ?_)))
   have h153 := leafB hd45 h51 h41
   exact mp ((t28.1.Member.Birth, t28.1.Member.Joined, s36.2.1, s36.2.2.1, s36.2.2.2.1, s36.2.2.2.2.1, s36.2.2.2.2.2.1, s36.2.2.2.2.2.2.1, s36.2.2.2.2.2.2.2.1, s36.2.2.2.2.2.2.2.2.1, s36.2.2.2.2.2.2.2.2.2), ((y37.1.1, y37.1.2), (y37.2.1.1, y37.2.1.2), (y37.2.2.1.1, y37.2.2.1.2), (y37.2.2.2.1.1, y37.2.2.2.1.2), (y37.2.2.2.2.1.1, y37.2.2.2.2.1.2), (y37.2.2.2.2.2.1, y37.2.2.2.2.2.2))) h153 [7] [1, 1, 1, 1, 1, 1, 1, 1, 1, 1, 1] 2
 have h48 := (congrFun hk43 _).symm.trans h48p
 refine nt (qs (qr (oN 2 [(2, vb t32.2)] [] ?_)))
 refine oe (nt (qe ?_))
 obtain rfl := sI h48
 exact re [.bool t32.2]
end Go.Pen
