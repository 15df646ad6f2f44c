/-
  Each Go function does what its plain function says: written by a program of ours.
-/
import Derived.Test.YtagenkhjchiigaaW1
import Derived.Test.YtagenkhjchiigaaProg
import Derived.Test.YtagenkhjchiigaaPenK
import Derived.Test.YtagenkhjchiigaaPenJ
import Derived.Test.YtagenkhjchiigaaPenP
namespace Go.Pen
open Go.Proofs Go.RowKit
set_option linter.unusedVariables false
set_option linter.unusedSimpArgs false
set_option maxRecDepth 100000
set_option maxHeartbeats 4000000

theorem c_spec_DrawPlaces {W : World} {x0 : List U8} {a0_0 : Option Addr} {c0_0 : Nat} {r : (List Int)} (h : spec_DrawPlaces x0 = some r) (hv0_0 : SlView W x0 a0_0 c0_0) :
    Gives Try.prog 8 #[.slice a0_0 x0.length c0_0] W (fun y : AC => .slice y.1 r.length y.2) (fun y => [SlRes 3 r y.1 y.2]) := by
 unfold spec_DrawPlaces at h
 refine en Try.func8 Try.ntmps8 ?_
 refine qs (qr (oN 1 [] [0] ?_))
 refine oe (nt (qs (qr (oN 1 [(6, .v (.slice a0_0 x0.length c0_0))] [] ?_))))
 obtain ⟨t21, h22, h23⟩ := bS h
 refine JO_callN rfl (by kernel_rfl) (f := 22) (args := #[.slice a0_0 x0.length c0_0]) (by kernel_rfl) (fun γ w hs => (by have vv := c_spec_l01New (W := w) h22 (hv0_0.kept hs.kept); exact vv)) (fun y24 => [(7, .q y24.1 0), (6, .v (.slice a0_0 x0.length c0_0))]) (fun y24 => by kernel_rfl) (fun y24 => ?_)
 refine oN 1 [(3, .q y24.1 0)] [] ?_
 refine oe (nt (qs (qr (ob [] [CurRes 106 (CurD.mk x0 t21.1 t21.2) y24.1 a0_0 c0_0] 3 0 [] ([] : List Int) (own_flat (by kernel_rfl)) (fun y25 => ?_)))))
 refine oN 1 [(4, .v (.slice y25.1 ([] : List Int).length y25.2))] [3] ?_
 refine oe (nt (qs (qs (qr (oN 1 [(5, vi 0)] [4, 3] ?_)))))
 refine oe (nt ?_)
 obtain ⟨r30, hL31, h32⟩ := bS h23
 obtain ⟨k33, hk34, h32⟩ := brkS h32
 refine JC_cutP (τ := ((List Int)) × (AC)) (fun y => k33 y.1 = some r) (fun y38 => [(4, .v (.slice y38.2.1 y38.1.length y38.2.2))]) (fun y38 => []) (fun y38 => [SlRes 3 y38.1 y38.2.1 y38.2.2]) ?_ (fun y38 h39p => ?_)
 · refine qb (lp AC hL31 (fun s27 y28 => [(5, vi s27.1), (4, .v (.slice y28.1 s27.2.1.length y28.2)), (3, .q y24.1 0)]) (fun s27 y28 => []) (fun s27 y28 => [SlRes 3 s27.2.1 y28.1 y28.2, CurRes 106 (CurD.mk x0 s27.2.2.1 s27.2.2.2) y24.1 a0_0 c0_0]) (y25.1, y25.2) [5, 4, 3] [0, 0] 0 (fun s27 y28 t29 h35 hd36 => ?_))
   refine qs (qs (qr (oN 2 [(10, vb (decide (s27.1 < 12)))] [5, 4, 3] ?_)))
   refine oe (nt (cC h35 (fun h41 => ?_) (fun h42 => ?_)))
   · refine qk (nt (qs (qb (qr (oN 2 [(14, .q y24.1 0), (13, .v (.slice y28.1 s27.2.1.length y28.2))] [5, 3] ?_)))))
     refine or_ [1, 0] ?_
     obtain ⟨t43, h44, h45⟩ := bS h41
     refine JO_callC rfl (by kernel_rfl) (f := 23) (args := fun γ => #[(SV.q y24.1 0).den [], .int .i64 10000]) (fun γ => by kernel_rfl) (x0 := CurD.mk x0 s27.2.2.1 s27.2.2.2) (x1 := CurD.mk x0 t43.2.1 t43.2.2) (Rr := [SlRes 3 s27.2.1 y28.1 y28.2]) rfl (Seen.of hv0_0) (fun γ w hs => (by have vv := c_spec_l01Below (p0 := y24.1) (W := w) h44 (hv0_0.kept hs.kept); exact vv)) (fun (y46 : Unit) => [(15, vi t43.1), (14, .q y24.1 0), (13, .v (.slice y28.1 s27.2.1.length y28.2)), (5, vi s27.1), (3, .q y24.1 0)]) (fun y46 => by kernel_rfl) (fun y46 => ?_)
     refine ob [] [CurRes 106 (CurD.mk x0 t43.2.1 t43.2.2) y24.1 a0_0 c0_0, SlRes 3 s27.2.1 y28.1 y28.2] 3 1 [.int .i64 t43.1] ([t43.1] : List Int) (own_flat (by kernel_rfl)) (fun y47 => ?_)
     refine or_ [2, 0, 0] ?_
     obtain ⟨l50, hm51, h52⟩ := bS h45
     refine oa 40 y47.2 Try.t3 (.int .i64 0) (fun γ w hs => ⟨y47.2, (hs.view 1 rfl)⟩) hm51 (fun y49 => ?_)
     refine oN 1 [(4, .v (.slice y49.1 l50.length y49.2))] [5, 3] ?_
     refine oe (bn (nt (qr (oN 3 [(5, vi (w64 (s27.1 + 1)))] [4, 3] ?_))))
     exact oe (ct h52 (y49.1, y49.2) [5, 4, 3] [0, 1] 0)
   refine qx (nx (nx (bh ?_)))
   have h53 := leafB hd36 h42 h32
   exact mp (s27.2.1, (y28.1, y28.2)) h53 [4] [0] 0
 have h39 := (congrFun hk34 _).symm.trans h39p
 refine nt (qs (qr (oN 2 [(2, .v (.slice y38.2.1 y38.1.length y38.2.2))] [] ?_)))
 refine oe (nt (qe (rt [.slice y38.2.1 y38.1.length y38.2.2] (fun γ w hs => ?_))))
 rw [← sI h39]
 exact ⟨y38.2, rfl, hs.kept.toBelow, (hs.takeR (is := [0]) rfl).fresh⟩

theorem c_slices_Clone_Node {W : World} {x0 : List Node} {a0_0 : Option Addr} {c0_0 : Nat} {r : (List Node)} (h : slices_Clone_Node x0 = some r) (hv0_0 : SlView W x0 a0_0 c0_0) :
    Gives Try.prog 118 #[.slice a0_0 x0.length c0_0] W (fun y : AC => .slice y.1 r.length y.2) (fun y => [SlRes 68 r y.1 y.2]) := by
 unfold slices_Clone_Node at h
 refine en Try.func118 Try.ntmps118 ?_
 refine qs (qr (oN 1 [] [0] ?_))
 refine oe (nt (qs (qs (qr (oN 1 [(3, .v (.slice a0_0 x0.length c0_0))] [0] ?_)))))
 rcases a0_0 with _ | d21
 · obtain rfl := hv0_0.nil rfl
   obtain rfl := hv0_0.nilE
   have h22 : (some ([] : List Node)) = some r := h
   refine oN 1 [(4, vb true)] [0] ?_
   refine oe (nt (JC_cond true (by kernel_rfl) (fun _ => ?_) (fun hb => by cases hb)))
   refine qs (qr (oN 1 [(2, .v (.slice none 0 0))] [] ?_))
   refine oe (nt (qe (nr (JE_addnil 68 (List.nil (α := Node)) rfl ?_))))
   refine rt [.slice none 0 0] (fun γ w hs => ?_)
   rw [← sI h22]
   exact ⟨(none, 0), rfl, hs.kept.toBelow, (hs.takeR (is := [0]) rfl).fresh⟩
 refine oN 1 [(4, vb false)] [0] ?_
 refine oe (nt (JC_cond false (by kernel_rfl) (fun hb => by cases hb) (fun _ => ?_)))
 refine qk (nt (qs (qr (ob [] [] 68 0 [] ([] : List Node) (own_flat (by kernel_rfl)) (fun y24 => ?_)))))
 refine oN 1 [(6, .v (.slice (some d21) x0.length c0_0))] [5] ?_
 obtain ⟨l27, hm28, h29⟩ := bS h
 refine oa 46 c0_0 Try.t68 (vNode (Node.mk 0 0 0 0 (Frac.mk 0 0))) (fun γ w hs => ⟨c0_0, (hv0_0.kept hs.kept)⟩) hm28 (fun y26 => ?_)
 refine oN 1 [(2, .v (.slice y26.1 l27.length y26.2))] [] ?_
 refine oe (nt (qe (rt [.slice y26.1 l27.length y26.2] (fun γ w hs => ?_))))
 rw [← sI h29]
 exact ⟨y26, rfl, hs.kept.toBelow, (hs.takeR (is := [0]) rfl).fresh⟩

theorem c_impl_copyNodes {W : World} {x0 : List Node} {a0_0 : Option Addr} {c0_0 : Nat} {r : (List Node)} (h : impl_copyNodes x0 = some r) (hv0_0 : SlView W x0 a0_0 c0_0) :
    Gives Try.prog 98 #[.slice a0_0 x0.length c0_0] W (fun y : AC => .slice y.1 r.length y.2) (fun y => [SlRes 68 r y.1 y.2]) := by
 unfold impl_copyNodes at h
 refine en Try.func98 Try.ntmps98 ?_
 refine qs (qr (oN 1 [] [0] ?_))
 refine oe (nt (qs (qr (oN 1 [(3, .v (.slice a0_0 x0.length c0_0))] [] ?_))))
 obtain ⟨t21, h22, h23⟩ := bS h
 refine k1 (fun γ w hs => c_slices_Clone_Node h22 (hv0_0.kept hs.kept)) (fun y24 => ?_)
 refine oN 1 [(2, .v (.slice y24.1 t21.length y24.2))] [] ?_
 refine oe (nt (qe (rt [.slice y24.1 t21.length y24.2] (fun γ w hs => ?_))))
 rw [← sI h23]
 exact ⟨y24, rfl, hs.kept.toBelow, (hs.takeR (is := [0]) rfl).fresh⟩

theorem c_impl_copyBook {W : World} {x0 : Book} {a0_0 : Option Addr} {c0_0 : Nat} {r : Book} (h : impl_copyBook x0 = some r) (hv0_0 : SlView W x0.Rules a0_0 c0_0) :
    Gives Try.prog 63 #[vBook x0 (a0_0, c0_0)] W (fun y : AC => vBook r y) (fun y => [SlRes 48 r.Rules y.1 y.2]) := by
 unfold impl_copyBook at h
 refine en Try.func63 Try.ntmps63 ?_
 refine qs (qr (oB 2 [(2, .p 1 0), (1, .p 0 0)] [] [(26, (eBook x0 (a0_0, c0_0))), (26, [.slice none 0 0])] ?_))
 refine oe (nt (qs (qr (oB 3 [(3, .p 2 0)] [2, 1] [(26, (eBook x0 (a0_0, c0_0))), (26, [.slice none 0 0]), (26, [.slice none 0 0])] ?_))))
 refine oe (nt (qs (qs (qr (oN 4 [(10, vi 0), (9, vi (x0.Rules.length : Int)), (8, .v (.slice a0_0 x0.Rules.length c0_0))] [3, 2] ?_)))))
 refine oe (nt (JC_addnil 48 (List.nil (α := Rule)) rfl ?_))
 obtain ⟨r24, hL25, h26⟩ := bS h
 obtain ⟨k27, hk28, h26⟩ := brkS h26
 refine JC_cutP (τ := ((List Rule)) × (AC)) (fun y => k27 y.1 = some r) (fun y32 => [(3, .p 2 0), (2, .p 1 0)]) (fun y32 => [(26, (eBook x0 (a0_0, c0_0))), (26, [.slice none 0 0]), (26, (eBook (Book.mk y32.1) y32.2))]) (fun y32 => [SlRes 48 y32.1 y32.2.1 y32.2.2]) ?_ (fun y32 h33p => ?_)
 · refine qb (lp AC hL25 (fun s21 y22 => [(10, vi s21.1), (9, vi (x0.Rules.length : Int)), (8, .v (.slice a0_0 x0.Rules.length c0_0)), (3, .p 2 0), (2, .p 1 0)]) (fun s21 y22 => [(26, (eBook x0 (a0_0, c0_0))), (26, [.slice none 0 0]), (26, (eBook (Book.mk s21.2) y22))]) (fun s21 y22 => [SlRes 48 s21.2 y22.1 y22.2]) (none, 0) [10, 9, 8, 3, 2] [0] 3 (fun s21 y22 t23 h29 hd30 => ?_))
   refine qs (qr (oN 1 [(11, vb (decide (s21.1 < (x0.Rules.length : Int))))] [10, 9, 8, 3, 2] ?_))
   refine oe (nt (qs (cC h29 (fun h35 => ?_) (fun h36 => ?_))))
   · refine qk (nt (qs (qb (qs (qr ?_)))))
     obtain ⟨x37, hx38, h39⟩ := bS h35
     refine oi 7 (fun γ w hs => (hv0_0.kept hs.kept)) hx38 ?_
     obtain ⟨_, ⟨a40, c41, rfl, hv42⟩, hc43⟩ := SlView.at hv0_0 (idx_some hx38).2.2
     refine ol 48 0 (vRule x37 (a40, c41)) (fun γ w hs => ⟨(hv0_0.kept hs.kept).ne (idx_some hx38).2.2, hc43.kept hs.kept⟩) ?_
     refine oB 2 [(5, .p 3 0)] [10, 9, 8, 3, 2] [(26, (eBook x0 (a0_0, c0_0))), (26, [.slice none 0 0]), (26, (eBook (Book.mk s21.2) y22)), (48, (eRule x37 (a40, c41)))] ?_
     refine oe (nt (qs (qr (oN 2 [(15, .v (.slice a40 x37.Nodes.length c41))] [5, 10, 9, 8, 3, 2] ?_))))
     obtain ⟨t44, h45, h46⟩ := bS h39
     refine k1 (fun γ w hs => c_impl_copyNodes h45 (hv42.kept hs.kept)) (fun y47 => ?_)
     refine oB 2 [] [5, 10, 9, 8, 3, 2] [(26, (eBook x0 (a0_0, c0_0))), (26, [.slice none 0 0]), (26, (eBook (Book.mk s21.2) y22)), (48, (eRule (Rule.mk x37.Name x37.From x37.To x37.Joined x37.Rank x37.Mode t44) y47))] ?_
     refine oe (nt (qr (oN 3 [(20, .v (vRule (Rule.mk x37.Name x37.From x37.To x37.Joined x37.Rank x37.Mode t44) y47)), (19, .v (.slice y22.1 s21.2.length y22.2))] [10, 9, 8, 3, 2] ?_)))
     refine ob [SlRes 68 t44 y47.1 y47.2] [SlRes 48 s21.2 y22.1 y22.2] 48 1 [.int .i64 x37.Name, .int .i64 x37.From, .int .i64 x37.To, .int .i64 x37.Joined, .int .i64 x37.Rank, .int .i64 x37.Mode, .slice y47.1 t44.length y47.2] ([Rule.mk x37.Name x37.From x37.To x37.Joined x37.Rank x37.Mode t44] : List Rule) (own_single (by rintro w Fs ⟨G0, _, rfl, h0, rfl⟩; exact ⟨68, y47.1, y47.2, G0, by simp, rfl, h0⟩)) (fun y48 => ?_)
     refine or_ [1, 0] ?_
     obtain ⟨l51, hm52, h53⟩ := bS h46
     refine JO_appendR (α := Rule) rfl (by kernel_rfl) (t := 24) (e := 48) (a1 := y22.1) (a2 := y48.1) (c1 := y22.2) (c2 := y48.2) (l1 := s21.2) (l2 := ([Rule.mk x37.Name x37.From x37.To x37.Joined x37.Rank x37.Mode t44] : List Rule)) (by kernel_rfl) (i := Try.t48) (by kernel_rfl) (z := (vRule (Rule.mk 0 0 0 0 0 0 ([] : List Node)) (none, 0))) (by kernel_rfl) (by kernel_rfl) (by kernel_rfl) (by kernel_rfl) (Rr := []) rfl hm52 _ (fun _ => rfl) (fun y50 => ?_)
     refine oB 2 [] [10, 9, 8, 3, 2] [(26, (eBook x0 (a0_0, c0_0))), (26, [.slice none 0 0]), (26, (eBook (Book.mk l51) y50)), (48, (eRule (Rule.mk x37.Name x37.From x37.To x37.Joined x37.Rank x37.Mode t44) y47))] ?_
     refine oe (bn (nt (qr (oN 2 [(10, vi (w64 (s21.1 + 1)))] [9, 8, 3, 2] ?_))))
     exact oe (ct h53 (y50.1, y50.2) [10, 9, 8, 3, 2] [0] 3)
   refine qx (nx (nx (bh ?_)))
   have h54 := leafB hd30 h36 h26
   exact mp (s21.2, (y22.1, y22.2)) h54 [3, 2] [0] 3
 have h33 := (congrFun hk28 _).symm.trans h33p
 refine nt (qs (qr (oB 2 [] [2] [(26, (eBook x0 (a0_0, c0_0))), (26, (eBook (Book.mk y32.1) y32.2)), (26, (eBook (Book.mk y32.1) y32.2))] ?_)))
 refine oe (nt (qe (rt [vBook (Book.mk y32.1) y32.2] (fun γ w hs => ?_))))
 rw [← sI h33]
 exact ⟨y32.2, rfl, hs.kept.toBelow, (hs.takeR (is := [0]) rfl).fresh⟩

theorem c_slices_Clone_Fact {W : World} {x0 : List Fact} {a0_0 : Option Addr} {c0_0 : Nat} {r : (List Fact)} (h : slices_Clone_Fact x0 = some r) (hv0_0 : SlView W x0 a0_0 c0_0) :
    Gives Try.prog 68 #[.slice a0_0 x0.length c0_0] W (fun y : AC => .slice y.1 r.length y.2) (fun y => [SlRes 79 r y.1 y.2]) := by
 unfold slices_Clone_Fact at h
 refine en Try.func68 Try.ntmps68 ?_
 refine qs (qr (oN 1 [] [0] ?_))
 refine oe (nt (qs (qs (qr (oN 1 [(3, .v (.slice a0_0 x0.length c0_0))] [0] ?_)))))
 rcases a0_0 with _ | d21
 · obtain rfl := hv0_0.nil rfl
   obtain rfl := hv0_0.nilE
   have h22 : (some ([] : List Fact)) = some r := h
   refine oN 1 [(4, vb true)] [0] ?_
   refine oe (nt (JC_cond true (by kernel_rfl) (fun _ => ?_) (fun hb => by cases hb)))
   refine qs (qr (oN 1 [(2, .v (.slice none 0 0))] [] ?_))
   refine oe (nt (qe (nr (JE_addnil 79 (List.nil (α := Fact)) rfl ?_))))
   refine rt [.slice none 0 0] (fun γ w hs => ?_)
   rw [← sI h22]
   exact ⟨(none, 0), rfl, hs.kept.toBelow, (hs.takeR (is := [0]) rfl).fresh⟩
 refine oN 1 [(4, vb false)] [0] ?_
 refine oe (nt (JC_cond false (by kernel_rfl) (fun hb => by cases hb) (fun _ => ?_)))
 refine qk (nt (qs (qr (ob [] [] 79 0 [] ([] : List Fact) (own_flat (by kernel_rfl)) (fun y24 => ?_)))))
 refine oN 1 [(6, .v (.slice (some d21) x0.length c0_0))] [5] ?_
 obtain ⟨l27, hm28, h29⟩ := bS h
 refine oa 27 c0_0 Try.t79 (vFact (Fact.mk 0 0 0 0 0)) (fun γ w hs => ⟨c0_0, (hv0_0.kept hs.kept)⟩) hm28 (fun y26 => ?_)
 refine oN 1 [(2, .v (.slice y26.1 l27.length y26.2))] [] ?_
 refine oe (nt (qe (rt [.slice y26.1 l27.length y26.2] (fun γ w hs => ?_))))
 rw [← sI h29]
 exact ⟨y26, rfl, hs.kept.toBelow, (hs.takeR (is := [0]) rfl).fresh⟩

theorem c_impl_copyStore {W : World} {x0 : Store} {a0_0 : Option Addr} {c0_0 : Nat} {r : Store} (h : impl_copyStore x0 = some r) (hv0_0 : SlView W x0.Facts a0_0 c0_0) :
    Gives Try.prog 64 #[vStore x0 (a0_0, c0_0)] W (fun y : AC => vStore r y) (fun y => [SlRes 79 r.Facts y.1 y.2]) := by
 unfold impl_copyStore at h
 refine en Try.func64 Try.ntmps64 ?_
 refine qs (qr (oB 2 [(2, .p 1 0), (1, .p 0 0)] [] [(29, (eStore x0 (a0_0, c0_0))), (29, [.slice none 0 0])] ?_))
 refine oe (nt (qs (qr (oN 2 [(4, .v (.slice a0_0 x0.Facts.length c0_0))] [2] ?_))))
 obtain ⟨t21, h22, h23⟩ := bS h
 refine k1 (fun γ w hs => c_slices_Clone_Fact h22 (hv0_0.kept hs.kept)) (fun y24 => ?_)
 refine oB 2 [] [2] [(29, (eStore x0 (a0_0, c0_0))), (29, (eStore (Store.mk t21) y24))] ?_
 refine oe (nt (qe (rt [vStore (Store.mk t21) y24] (fun γ w hs => ?_))))
 rw [← sI h23]
 exact ⟨y24, rfl, hs.kept.toBelow, (hs.takeR (is := [0]) rfl).fresh⟩

theorem c_slices_Clone_Point {W : World} {x0 : List Point} {a0_0 : Option Addr} {c0_0 : Nat} {r : (List Point)} (h : slices_Clone_Point x0 = some r) (hv0_0 : SlView W x0 a0_0 c0_0) :
    Gives Try.prog 31 #[.slice a0_0 x0.length c0_0] W (fun y : AC => .slice y.1 r.length y.2) (fun y => [SlRes 75 r y.1 y.2]) := by
 unfold slices_Clone_Point at h
 refine en Try.func31 Try.ntmps31 ?_
 refine qs (qr (oN 1 [] [0] ?_))
 refine oe (nt (qs (qs (qr (oN 1 [(3, .v (.slice a0_0 x0.length c0_0))] [0] ?_)))))
 rcases a0_0 with _ | d21
 · obtain rfl := hv0_0.nil rfl
   obtain rfl := hv0_0.nilE
   have h22 : (some ([] : List Point)) = some r := h
   refine oN 1 [(4, vb true)] [0] ?_
   refine oe (nt (JC_cond true (by kernel_rfl) (fun _ => ?_) (fun hb => by cases hb)))
   refine qs (qr (oN 1 [(2, .v (.slice none 0 0))] [] ?_))
   refine oe (nt (qe (nr (JE_addnil 75 (List.nil (α := Point)) rfl ?_))))
   refine rt [.slice none 0 0] (fun γ w hs => ?_)
   rw [← sI h22]
   exact ⟨(none, 0), rfl, hs.kept.toBelow, (hs.takeR (is := [0]) rfl).fresh⟩
 refine oN 1 [(4, vb false)] [0] ?_
 refine oe (nt (JC_cond false (by kernel_rfl) (fun hb => by cases hb) (fun _ => ?_)))
 refine qk (nt (qs (qr (ob [] [] 75 0 [] ([] : List Point) (own_flat (by kernel_rfl)) (fun y24 => ?_)))))
 refine oN 1 [(6, .v (.slice (some d21) x0.length c0_0))] [5] ?_
 obtain ⟨l27, hm28, h29⟩ := bS h
 refine oa 30 c0_0 Try.t75 (vPoint (Point.mk 0 0 0)) (fun γ w hs => ⟨c0_0, (hv0_0.kept hs.kept)⟩) hm28 (fun y26 => ?_)
 refine oN 1 [(2, .v (.slice y26.1 l27.length y26.2))] [] ?_
 refine oe (nt (qe (rt [.slice y26.1 l27.length y26.2] (fun γ w hs => ?_))))
 rw [← sI h29]
 exact ⟨y26, rfl, hs.kept.toBelow, (hs.takeR (is := [0]) rfl).fresh⟩

theorem c_impl_copySeries {W : World} {x0 : Series} {a0_0 : Option Addr} {c0_0 : Nat} {r : Series} (h : impl_copySeries x0 = some r) (hv0_0 : SlView W x0.Points a0_0 c0_0) :
    Gives Try.prog 65 #[vSeries x0 (a0_0, c0_0)] W (fun y : AC => vSeries r y) (fun y => [SlRes 75 r.Points y.1 y.2]) := by
 unfold impl_copySeries at h
 refine en Try.func65 Try.ntmps65 ?_
 refine qs (qr (oB 2 [(2, .p 1 0), (1, .p 0 0)] [] [(32, (eSeries x0 (a0_0, c0_0))), (32, [.slice none 0 0])] ?_))
 refine oe (nt (qs (qr (oN 2 [(4, .v (.slice a0_0 x0.Points.length c0_0))] [2] ?_))))
 obtain ⟨t21, h22, h23⟩ := bS h
 refine k1 (fun γ w hs => c_slices_Clone_Point h22 (hv0_0.kept hs.kept)) (fun y24 => ?_)
 refine oB 2 [] [2] [(32, (eSeries x0 (a0_0, c0_0))), (32, (eSeries (Series.mk t21) y24))] ?_
 refine oe (nt (qe (rt [vSeries (Series.mk t21) y24] (fun γ w hs => ?_))))
 rw [← sI h23]
 exact ⟨y24, rfl, hs.kept.toBelow, (hs.takeR (is := [0]) rfl).fresh⟩

theorem c_slices_Clone_Spell {W : World} {x0 : List Spell} {a0_0 : Option Addr} {c0_0 : Nat} {r : (List Spell)} (h : slices_Clone_Spell x0 = some r) (hv0_0 : SlView W x0 a0_0 c0_0) :
    Gives Try.prog 99 #[.slice a0_0 x0.length c0_0] W (fun y : AC => .slice y.1 r.length y.2) (fun y => [SlRes 94 r y.1 y.2]) := by
 unfold slices_Clone_Spell at h
 refine en Try.func99 Try.ntmps99 ?_
 refine qs (qr (oN 1 [] [0] ?_))
 refine oe (nt (qs (qs (qr (oN 1 [(3, .v (.slice a0_0 x0.length c0_0))] [0] ?_)))))
 rcases a0_0 with _ | d21
 · obtain rfl := hv0_0.nil rfl
   obtain rfl := hv0_0.nilE
   have h22 : (some ([] : List Spell)) = some r := h
   refine oN 1 [(4, vb true)] [0] ?_
   refine oe (nt (JC_cond true (by kernel_rfl) (fun _ => ?_) (fun hb => by cases hb)))
   refine qs (qr (oN 1 [(2, .v (.slice none 0 0))] [] ?_))
   refine oe (nt (qe (nr (JE_addnil 94 (List.nil (α := Spell)) rfl ?_))))
   refine rt [.slice none 0 0] (fun γ w hs => ?_)
   rw [← sI h22]
   exact ⟨(none, 0), rfl, hs.kept.toBelow, (hs.takeR (is := [0]) rfl).fresh⟩
 refine oN 1 [(4, vb false)] [0] ?_
 refine oe (nt (JC_cond false (by kernel_rfl) (fun hb => by cases hb) (fun _ => ?_)))
 refine qk (nt (qs (qr (ob [] [] 94 0 [] ([] : List Spell) (own_flat (by kernel_rfl)) (fun y24 => ?_)))))
 refine oN 1 [(6, .v (.slice (some d21) x0.length c0_0))] [5] ?_
 obtain ⟨l27, hm28, h29⟩ := bS h
 refine oa 33 c0_0 Try.t94 (vSpell (Spell.mk 0 0 0 false)) (fun γ w hs => ⟨c0_0, (hv0_0.kept hs.kept)⟩) hm28 (fun y26 => ?_)
 refine oN 1 [(2, .v (.slice y26.1 l27.length y26.2))] [] ?_
 refine oe (nt (qe (rt [.slice y26.1 l27.length y26.2] (fun γ w hs => ?_))))
 rw [← sI h29]
 exact ⟨y26, rfl, hs.kept.toBelow, (hs.takeR (is := [0]) rfl).fresh⟩

theorem c_slices_Clone_Event {W : World} {x0 : List Event} {a0_0 : Option Addr} {c0_0 : Nat} {r : (List Event)} (h : slices_Clone_Event x0 = some r) (hv0_0 : SlView W x0 a0_0 c0_0) :
    Gives Try.prog 100 #[.slice a0_0 x0.length c0_0] W (fun y : AC => .slice y.1 r.length y.2) (fun y => [SlRes 97 r y.1 y.2]) := by
 unfold slices_Clone_Event at h
 refine en Try.func100 Try.ntmps100 ?_
 refine qs (qr (oN 1 [] [0] ?_))
 refine oe (nt (qs (qs (qr (oN 1 [(3, .v (.slice a0_0 x0.length c0_0))] [0] ?_)))))
 rcases a0_0 with _ | d21
 · obtain rfl := hv0_0.nil rfl
   obtain rfl := hv0_0.nilE
   have h22 : (some ([] : List Event)) = some r := h
   refine oN 1 [(4, vb true)] [0] ?_
   refine oe (nt (JC_cond true (by kernel_rfl) (fun _ => ?_) (fun hb => by cases hb)))
   refine qs (qr (oN 1 [(2, .v (.slice none 0 0))] [] ?_))
   refine oe (nt (qe (nr (JE_addnil 97 (List.nil (α := Event)) rfl ?_))))
   refine rt [.slice none 0 0] (fun γ w hs => ?_)
   rw [← sI h22]
   exact ⟨(none, 0), rfl, hs.kept.toBelow, (hs.takeR (is := [0]) rfl).fresh⟩
 refine oN 1 [(4, vb false)] [0] ?_
 refine oe (nt (JC_cond false (by kernel_rfl) (fun hb => by cases hb) (fun _ => ?_)))
 refine qk (nt (qs (qr (ob [] [] 97 0 [] ([] : List Event) (own_flat (by kernel_rfl)) (fun y24 => ?_)))))
 refine oN 1 [(6, .v (.slice (some d21) x0.length c0_0))] [5] ?_
 obtain ⟨l27, hm28, h29⟩ := bS h
 refine oa 34 c0_0 Try.t97 (vEvent (Event.mk 0 0)) (fun γ w hs => ⟨c0_0, (hv0_0.kept hs.kept)⟩) hm28 (fun y26 => ?_)
 refine oN 1 [(2, .v (.slice y26.1 l27.length y26.2))] [] ?_
 refine oe (nt (qe (rt [.slice y26.1 l27.length y26.2] (fun γ w hs => ?_))))
 rw [← sI h29]
 exact ⟨y26, rfl, hs.kept.toBelow, (hs.takeR (is := [0]) rfl).fresh⟩

theorem c_impl_copyMember {W : World} {x0 : Member} {b0 : AC × AC} {r : Member} (h : impl_copyMember x0 = some r) (hv0_0 : SlView W x0.Spells b0.1.1 b0.1.2) (hv0_1 : SlView W x0.Events b0.2.1 b0.2.2) :
    Gives Try.prog 66 #[vMember x0 b0] W (fun y : AC × AC => vMember r y) (fun y => [SlRes 94 r.Spells y.1.1 y.1.2, SlRes 97 r.Events y.2.1 y.2.2]) := by
 unfold impl_copyMember at h
 refine en Try.func66 Try.ntmps66 ?_
 refine qs (qr (oB 2 [(2, .p 1 0), (1, .p 0 0)] [] [(36, (eMember x0 b0)), (36, [.int .i64 0, .int .i64 0, .slice none 0 0, .slice none 0 0])] ?_))
 refine oe (nt (qs (qr (oN 2 [(4, .v (.slice b0.1.1 x0.Spells.length b0.1.2))] [2, 1] ?_))))
 obtain ⟨t21, h22, h23⟩ := bS h
 refine k1 (fun γ w hs => c_slices_Clone_Spell h22 (hv0_0.kept hs.kept)) (fun y24 => ?_)
 refine oB 2 [] [2, 1] [(36, (eMember (Member.mk x0.Birth x0.Joined t21 x0.Events) (y24, b0.2))), (36, [.int .i64 0, .int .i64 0, .slice none 0 0, .slice none 0 0])] ?_
 refine oe (nt (qs (qr (oN 2 [(8, .v (.slice b0.2.1 x0.Events.length b0.2.2))] [2, 1] ?_))))
 obtain ⟨t25, h26, h27⟩ := bS h23
 refine k1 (fun γ w hs => c_slices_Clone_Event h26 (hv0_1.kept hs.kept)) (fun y28 => ?_)
 refine oB 2 [] [2, 1] [(36, (eMember (Member.mk x0.Birth x0.Joined t21 t25) (y24, y28))), (36, [.int .i64 0, .int .i64 0, .slice none 0 0, .slice none 0 0])] ?_
 refine oe (nt (qs (qr (oB 2 [] [2] [(36, (eMember (Member.mk x0.Birth x0.Joined t21 t25) (y24, y28))), (36, (eMember (Member.mk x0.Birth x0.Joined t21 t25) (y24, y28)))] ?_))))
 refine oe (nt (qe (rt [vMember (Member.mk x0.Birth x0.Joined t21 t25) (y24, y28)] (fun γ w hs => ?_))))
 rw [← sI h27]
 exact ⟨(y24, y28), rfl, hs.kept.toBelow, (hs.takeR (is := [1, 0]) rfl).fresh⟩

theorem c_impl_copyCase {W : World} {x0 : Case} {b0 : AC × AC × AC × AC × AC} {r : Case} (h : impl_copyCase x0 = some r) (hv0_0 : SlView W x0.Book.Rules b0.1.1 b0.1.2) (hv0_1 : SlView W x0.Store.Facts b0.2.1.1 b0.2.1.2) (hv0_2 : SlView W x0.Series.Points b0.2.2.1.1 b0.2.2.1.2) (hv0_3 : SlView W x0.Member.Spells b0.2.2.2.1.1 b0.2.2.2.1.2) (hv0_4 : SlView W x0.Member.Events b0.2.2.2.2.1 b0.2.2.2.2.2) :
    Gives Try.prog 28 #[vCase x0 b0] W (fun y : AC × AC × AC × AC × AC => vCase r y) (fun y => [SlRes 48 r.Book.Rules y.1.1 y.1.2, SlRes 79 r.Store.Facts y.2.1.1 y.2.1.2, SlRes 75 r.Series.Points y.2.2.1.1 y.2.2.1.2, SlRes 94 r.Member.Spells y.2.2.2.1.1 y.2.2.2.1.2, SlRes 97 r.Member.Events y.2.2.2.2.1 y.2.2.2.2.2]) := by
 unfold impl_copyCase at h
 refine en Try.func28 Try.ntmps28 ?_
 refine qs (qr (oB 2 [(2, .p 1 0), (1, .p 0 0)] [] [(38, (eCase x0 b0)), (38, [.slice none 0 0, .slice none 0 0, .slice none 0 0, .int .i64 0, .int .i64 0, .slice none 0 0, .slice none 0 0])] ?_))
 refine oe (nt (qs ?_))
 obtain ⟨t21, h22, h23⟩ := bS h
 obtain ⟨t25, h26, h27⟩ := bS h23
 obtain ⟨t29, h30, h31⟩ := bS h27
 obtain ⟨t33, h34, h35⟩ := bS h31
 refine JC_cut (τ := AC × AC × AC × (AC × AC)) (fun y37 => [(2, .p 1 0)]) (fun y37 => [(38, (eCase x0 b0)), (38, (eCase (Case.mk t21 t25 t29 t33) y37))]) (fun y37 => [SlRes 94 t33.Spells y37.2.2.2.1.1 y37.2.2.2.1.2, SlRes 97 t33.Events y37.2.2.2.2.1 y37.2.2.2.2.2, SlRes 75 t29.Points y37.2.2.1.1 y37.2.2.1.2, SlRes 79 t25.Facts y37.2.1.1 y37.2.1.2, SlRes 48 t21.Rules y37.1.1 y37.1.2]) ?_ (fun y37 => ?_)
 · refine jw [2, 1] [] ?_
   refine JC_heldN (ks := [0]) (Rk := []) 14 (by kernel_rfl) (by kernel_rfl) ?_
   refine htq 0 (.p 0 0) [] ?_
   refine htq 1 (.v (vBook x0.Book b0.1)) [] ?_
   refine hk [4, 2, 1] ?_
   refine htq 3 (.p 0 1) [] ?_
   refine htq 4 (.v (vStore x0.Store b0.2.1)) [] ?_
   refine hk [7, 4, 2, 1] ?_
   refine htq 6 (.p 0 2) [] ?_
   refine htq 7 (.v (vSeries x0.Series b0.2.2.1)) [] ?_
   refine hk [10, 7, 4, 2, 1] ?_
   refine htq 9 (.p 0 3) [] ?_
   refine hk [12, 10, 7, 4, 2] ?_
   refine htq 10 (.v (vMember x0.Member b0.2.2.2)) [] ?_
   refine hk [13, 10, 7, 4, 2] ?_
   refine ha1 2 ?_
   refine hi (fun γ0 δ hm => ?_)
   refine g1 (fun w hs => c_impl_copyBook h22 (hv0_0.kept hs.kept)) (fun y24 => ?_)
   refine gn hm [5, 13, 10, 7, 2] [] ?_
   refine ha1 5 ?_
   refine hi (fun γ0 δ hm => ?_)
   refine g1 (fun w hs => c_impl_copyStore h26 (hv0_1.kept hs.kept)) (fun y28 => ?_)
   refine gn hm [8, 5, 13, 10, 2] [] ?_
   refine ha1 8 ?_
   refine hi (fun γ0 δ hm => ?_)
   refine g1 (fun w hs => c_impl_copySeries h30 (hv0_2.kept hs.kept)) (fun y32 => ?_)
   refine gn hm [11, 8, 5, 13, 2] [] ?_
   refine ha1 11 ?_
   refine hi (fun γ0 δ hm => ?_)
   refine g1 (fun w hs => c_impl_copyMember (b0 := b0.2.2.2) h34 (hv0_3.kept hs.kept) (hv0_4.kept hs.kept)) (fun y36 => ?_)
   refine gn hm [14, 11, 8, 5, 2] [] ?_
   refine htq 12 (.v (vCase (Case.mk t21 t25 t29 t33) (y24, y28, y32, y36.1, y36.2))) [] ?_
   refine hk [15, 2] ?_
   refine ha1 13 ?_
   refine hi (fun γ0 δ hm => ?_)
   refine gs [(15, .v (vCase (Case.mk t21 t25 t29 t33) (y24, y28, y32, y36.1, y36.2))), (2, .p 1 0)] [(38, (eCase x0 b0)), (38, (eCase (Case.mk t21 t25 t29 t33) (y24, y28, y32, y36.1, y36.2)))] (fun δ2 => ?_)
   refine gd hm [2] [] ?_
   exact hd (y24, y28, y32, y36) [2] [0, 0, 0, 0, 0] 2
 refine nt (qe (rt [vCase (Case.mk t21 t25 t29 t33) y37] (fun γ w hs => ?_)))
 rw [← sI h35]
 exact ⟨(y37.1, y37.2.1, y37.2.2.1, y37.2.2.2.1, y37.2.2.2.2), rfl, hs.kept.toBelow, (hs.takeR (is := [4, 3, 2, 0, 0]) rfl).fresh⟩

theorem c_impl_StoreAsOf_1 {W : World} {x0 : Fact} {gf_0 : Nat} {zf_0 : Int} {r : Bool} (h : impl_StoreAsOf_1 x0 zf_0 = some r) (hcf_0 : CellsAt W (some ⟨gf_0, 0, none⟩) 0 [.int .i64 zf_0]) :
    Gives0 Try.prog 69 #[vFact x0, .pointer (some ⟨gf_0, 0, none⟩)] W (.bool r) := by
 unfold impl_StoreAsOf_1 at h
 refine enterD [.v (vFact x0), .q (some ⟨gf_0, 0, none⟩) (0)] (args := [vFact x0, .pointer (some ⟨gf_0, 0, none⟩)]) (by kernel_rfl) (by kernel_rfl) Try.func69 rfl Try.ntmps69 (by kernel_rfl) ?_
 refine qs (qr (oB 2 [(2, .p 0 0)] [1] [(79, (eFact x0))] ?_))
 refine oe (nt (qs (qr (oN 2 [(5, vi x0.Known)] [1] ?_))))
 refine ol 3 0 (.int .i64 zf_0) (fun γ w hs => ⟨by simp, hcf_0.kept hs.kept⟩) ?_
 refine oN 2 [(3, vb (decide (x0.Known > zf_0)))] [] ?_
 refine oe (nt (qe ?_))
 obtain rfl := sI h
 exact re [.bool (decide (x0.Known > zf_0))]

theorem c_slices_IndexFunc_Fact__impl_StoreAsOf_1 {W : World} {x0 : List Fact} {a0_0 : Option Addr} {c0_0 : Nat} {g1_0 : Nat} {z1_0 : Int} {r : Int} (h : slices_IndexFunc_Fact__impl_StoreAsOf_1 x0 z1_0 = some r) (hv0_0 : SlView W x0 a0_0 c0_0) (hc1_0 : CellsAt W (some ⟨g1_0, 0, none⟩) 0 [.int .i64 z1_0]) :
    Gives0 Try.prog 101 #[.slice a0_0 x0.length c0_0, .func (.func 69) #[] #[.pointer (some ⟨g1_0, 0, none⟩)]] W (.int .i64 r) := by
 unfold slices_IndexFunc_Fact__impl_StoreAsOf_1 at h
 refine en Try.func101 Try.ntmps101 ?_
 refine qs (qr (oN 1 [] [0, 1] ?_))
 refine oe (nt (qs (qs (qr (oN 3 [(8, vi 0), (7, vi (x0.length : Int))] [0, 1] ?_)))))
 refine oe (nt ?_)
 obtain ⟨r24, hL25, h26⟩ := bS h
 obtain ⟨k27, hk28, h26⟩ := brkS h26
 refine JC_cutP (τ := (Unit) × (Unit)) (fun y => k27 y.1 = some r) (fun y32 => []) (fun y32 => []) (fun y32 => []) ?_ (fun y32 h33p => ?_)
 · refine qb (lp Unit hL25 (fun s21 y22 => [(8, vi s21), (7, vi (x0.length : Int)), (0, .v (.slice a0_0 x0.length c0_0)), (1, .v (.func (.func 69) #[] #[.pointer (some ⟨g1_0, 0, none⟩)]))]) (fun s21 y22 => []) (fun s21 y22 => []) () [8, 7, 0, 1] [] 0 (fun s21 y22 t23 h29 hd30 => ?_))
   refine qs (qr (oN 1 [(9, vb (decide (s21 < (x0.length : Int))))] [8, 7, 0, 1] ?_))
   refine oe (nt (qs (cC h29 (fun h35 => ?_) (fun h36 => ?_))))
   · refine qk (nt (qs (qb (qs (qr (oN 2 [(5, vi s21)] [8, 7, 0, 1] ?_))))))
     refine oe (nt (qs (qr (oN 3 [(13, vi s21), (12, .v (.slice a0_0 x0.length c0_0)), (11, .v (.func (.func 69) #[] #[.pointer (some ⟨g1_0, 0, none⟩)]))] [5, 8, 7, 0, 1] ?_))))
     obtain ⟨x37, hx38, h39⟩ := bS h35
     refine oi 5 (fun γ w hs => (hv0_0.kept hs.kept)) hx38 ?_
     refine ol 79 0 (vFact x37) (fun γ w hs => (hv0_0.kept hs.kept).flatq hx38) ?_
     obtain ⟨t40, h41, h42⟩ := bS h39
     refine k0 (fun γ w hs => c_impl_StoreAsOf_1 h41 (hc1_0.kept hs.kept)) ?_
     refine oe (nt (cC h42 (fun h45 => ?_) (fun h46 => ?_)))
     · refine qs (qr (oN 2 [(4, vi s21)] [] ?_))
       refine oe (nt (qe (br (nr (nr ?_)))))
       have h47 := leafR hd30 h45 h26
       refine br (nr (nr ?_))
       obtain rfl := sI h47
       exact re [.int .i64 s21]
     refine qk (bn (nt (qr (oN 2 [(8, vi (w64 (s21 + 1)))] [7, 0, 1] ?_))))
     exact oe (ct h46 () [8, 7, 0, 1] [] 0)
   refine qx (nx (nx (bh ?_)))
   have h48 := leafB hd30 h36 h26
   exact mp ((), ()) h48 [] [] 0
 have h33 := (congrFun hk28 _).symm.trans h33p
 refine nt (qs (qr (oN 1 [(4, vi (-1))] [] ?_)))
 refine oe (nt (qe ?_))
 obtain rfl := sI h33
 exact re [.int .i64 (-1)]

theorem c_slices_DeleteFunc_Fact__impl_StoreAsOf_1 {W : World} {x0 : List Fact} {a0_0 : Option Addr} {c0_0 : Nat} {g1_0 : Nat} {z1_0 : Int} {r : (List Fact)} (h : slices_DeleteFunc_Fact__impl_StoreAsOf_1 x0 z1_0 = some r) (hc1_0 : CellsAt W (some ⟨g1_0, 0, none⟩) 0 [.int .i64 z1_0]) :
    GivesMD Try.prog [g1_0] 67 #[.slice a0_0 x0.length c0_0, .func (.func 69) #[] #[.pointer (some ⟨g1_0, 0, none⟩)]] W [SlRes 79 x0 a0_0 c0_0] [SlRes 79 r a0_0 c0_0] (.slice a0_0 r.length c0_0) := by
 unfold slices_DeleteFunc_Fact__impl_StoreAsOf_1 at h
 refine enterMD [.v (.slice a0_0 x0.length c0_0), .v (.func (.func 69) #[] #[.pointer (some ⟨g1_0, 0, none⟩)])] (args := [.slice a0_0 x0.length c0_0, .func (.func 69) #[] #[.pointer (some ⟨g1_0, 0, none⟩)]]) (by kernel_rfl) (by kernel_rfl) Try.func67 rfl Try.ntmps67 (by kernel_rfl) (fun Fs hG => ?_)
 refine qs (qr (oN 1 [] [0, 1] ?_))
 refine oe (nt (qs (qr (oN 2 [(9, .v (.func (.func 69) #[] #[.pointer (some ⟨g1_0, 0, none⟩)])), (8, .v (.slice a0_0 x0.length c0_0))] [0, 1] ?_))))
 obtain ⟨t21, h22, h23⟩ := bS h
 refine k0 (fun γ w hs => c_slices_IndexFunc_Fact__impl_StoreAsOf_1 h22 (hs.view 0 rfl) (hc1_0.keptM hs.kept (hG _ (by simp)))) ?_
 refine oN 1 [(5, vi t21)] [0, 1] ?_
 refine oe (nt (qs (qs (qr (oN 2 [(12, vb (t21 == (-1)))] [5, 0, 1] ?_)))))
 refine oe (nt (cC h23 (fun h26 => ?_) (fun h27 => ?_)))
 · refine qs (qr (oN 2 [(4, .v (.slice a0_0 x0.length c0_0))] [] ?_))
   refine oe (nt (qe (nr (rt [.slice a0_0 x0.length c0_0] (fun γ w hs => ?_)))))
   rw [← sI h26]
   exact hs.turned (is := [0]) rfl
 refine qk (nt (qs (qs (qr (oN 3 [(6, vi (w64 (t21 + 1)))] [5, 0, 1] ?_)))))
 refine oe (nt ?_)
 obtain ⟨r31, hL32, h33⟩ := bS h27
 obtain ⟨k34, hk35, h33⟩ := brkS h33
 refine JC_cutP (τ := (Int × (List Fact)) × (Unit)) (fun y => k34 y.1 = some r) (fun y39 => [(5, vi y39.1.1), (0, .v (.slice a0_0 y39.1.2.length c0_0))]) (fun y39 => []) (fun y39 => [SlRes 79 y39.1.2 a0_0 c0_0]) ?_ (fun y39 h40p => ?_)
 · refine qb (lp Unit hL32 (fun s28 y29 => [(6, vi s28.1), (5, vi s28.2.1), (0, .v (.slice a0_0 s28.2.2.length c0_0)), (1, .v (.func (.func 69) #[] #[.pointer (some ⟨g1_0, 0, none⟩)]))]) (fun s28 y29 => []) (fun s28 y29 => [SlRes 79 s28.2.2 a0_0 c0_0]) () [6, 5, 0, 1] [0] 0 (fun s28 y29 t30 h36 hd37 => ?_))
   refine qs (qs (qr (oN 4 [(19, vb (decide (s28.1 < (s28.2.2.length : Int))))] [6, 5, 0, 1] ?_)))
   refine oe (nt (cC h36 (fun h49 => ?_) (fun h50 => ?_)))
   · refine qk (nt (qs (qb (qs (qr (oN 2 [(23, vi s28.1), (22, .v (.slice a0_0 s28.2.2.length c0_0))] [6, 5, 0, 1] ?_))))))
     obtain ⟨x51, hx52, h53⟩ := bS h49
     refine oi 5 (fun γ w hs => (hs.view 0 rfl)) hx52 ?_
     refine ol 79 0 (vFact x51) (fun γ w hs => (hs.view 0 rfl).flatq hx52) ?_
     refine oB 2 [(7, .p 0 0)] [6, 5, 0, 1] [(79, (eFact x51))] ?_
     refine oe (nt (qs (qr (oN 2 [(27, .v (vFact x51)), (26, .v (.func (.func 69) #[] #[.pointer (some ⟨g1_0, 0, none⟩)]))] [7, 6, 5, 0, 1] ?_))))
     obtain ⟨t54, h55, h56⟩ := bS h53
     refine k0 (fun γ w hs => c_impl_StoreAsOf_1 h55 (hc1_0.keptM hs.kept (hG _ (by simp)))) ?_
     refine oN 1 [(29, vb (!t54))] [7, 6, 5, 0, 1] ?_
     refine oe (nt ?_)
     obtain ⟨k68, hk69, h71⟩ := jS h56
     refine JC_cutP (τ := (Int × (List Fact)) × (Unit)) (fun y => k68 y.1 = some t30) (fun y67 => [(6, vi s28.1), (5, vi y67.1.1), (0, .v (.slice a0_0 y67.1.2.length c0_0)), (1, .v (.func (.func 69) #[] #[.pointer (some ⟨g1_0, 0, none⟩)]))]) (fun y67 => [(79, (eFact x51))]) (fun y67 => [SlRes 79 y67.1.2 a0_0 c0_0]) ?_ (fun y67 h70p => ?_)
     · refine cC h71 (fun h73 => ?_) (fun h74 => ?_)
       · refine qs (qr (oN 3 [(32, .v (vFact x51)), (31, vi s28.2.1), (30, .v (.slice a0_0 s28.2.2.length c0_0))] [6, 5, 0, 1] ?_))
         obtain ⟨x75, hx76, h77⟩ := bS h73
         refine oi 5 (fun γ w hs => (hs.view 0 rfl)) hx76 ?_
         obtain ⟨l78, hm79, h80⟩ := bS h77
         replace hm79 := (sI hm79).symm
         refine JO_storeq (α := Fact) (d := a0_0) (vs := [.int .i64 x51.Key, .int .i64 x51.From, .int .i64 x51.To, .int .i64 x51.Known, .int .i64 x51.Value]) (j := s28.2.1) (x' := x51) rfl (by kernel_rfl) 0 (by kernel_rfl) hx76 (Rc := []) (Rr := []) rfl (by kernel_rfl) (fun w c F Fs ho _ _ => own_flat_set (by kernel_rfl) ho) hm79 rfl ?_
         have hl81 := len_set hm79
         refine JO_keep [32, 31, 30, 6, 5, 0, 1] (sl' := [(32, .v (vFact x51)), (31, vi s28.2.1), (30, .v (.slice a0_0 s28.2.2.length c0_0)), (6, vi s28.1), (5, vi s28.2.1), (0, .v (.slice a0_0 s28.2.2.length c0_0)), (1, .v (.func (.func 69) #[] #[.pointer (some ⟨g1_0, 0, none⟩)]))]) (by kernel_rfl) ?_
         refine JO_eqE (sl' := [(32, .v (vFact x51)), (31, vi s28.2.1), (30, .v (.slice a0_0 l78.length c0_0)), (6, vi s28.1), (5, vi s28.2.1), (0, .v (.slice a0_0 l78.length c0_0)), (1, .v (.func (.func 69) #[] #[.pointer (some ⟨g1_0, 0, none⟩)]))]) (bx' := [(79, (eFact x51))]) (by simp only [eFact, vFact, hl81]) rfl ?_
         refine oe (nt (qr (oN 3 [(5, vi (w64 (s28.2.1 + 1)))] [6, 0, 1] ?_)))
         exact oe (mp ((w64 (s28.2.1 + 1), l78), ()) h80 [6, 5, 0, 1] [0] 1)
       exact qk (mp ((s28.2.1, s28.2.2), ()) h74 [6, 5, 0, 1] [0] 1)
     have h70 := (congrFun hk69 _).symm.trans h70p
     refine bn (nt (qr (oN 3 [(6, vi (w64 (s28.1 + 1)))] [5, 0, 1] ?_)))
     exact oe (ct h70 () [6, 5, 0, 1] [0] 0)
   refine qx (nx (nx (bh ?_)))
   have h82 := leafB hd37 h50 h33
   exact mp ((s28.2.1, s28.2.2), ()) h82 [5, 0] [0] 0
 have h40 := (congrFun hk35 _).symm.trans h40p
 refine nt (qs (qr (oN 2 [(37, vi y39.1.1), (36, .v (.slice a0_0 y39.1.2.length c0_0))] [5, 0] ?_)))
 obtain ⟨l41, hm42, h43⟩ := bS h40
 refine JO_tail (α := Fact) (s := 5) (a0 := a0_0) (c0 := c0_0) (lo := y39.1.1) rfl (by kernel_rfl) (by kernel_rfl) hm42 (sl' := [(38, .v (.slice (tailA a0_0 c0_0 y39.1.1 5) (y39.1.2.length - Int.toNat y39.1.1) (c0_0 - Int.toNat y39.1.1))), (37, vi y39.1.1), (36, .v (.slice a0_0 y39.1.2.length c0_0)), (5, vi y39.1.1), (0, .v (.slice a0_0 y39.1.2.length c0_0))]) (by kernel_rfl) ?_
 refine JO_clear (α := Fact) (e := 79) (a0 := a0_0) (c0 := c0_0) (lo := y39.1.1) rfl (by kernel_rfl) (by kernel_rfl) (i := Try.t79) (by kernel_rfl) (z := vFact (Fact.mk 0 0 0 0 0)) (by kernel_rfl) (by kernel_rfl) hm42 (Rr := []) rfl (sl' := [(38, .v (.slice (tailA a0_0 c0_0 y39.1.1 5) (y39.1.2.length - Int.toNat y39.1.1) (c0_0 - Int.toNat y39.1.1))), (37, vi y39.1.1), (36, .v (.slice a0_0 y39.1.2.length c0_0)), (5, vi y39.1.1), (0, .v (.slice a0_0 y39.1.2.length c0_0))]) (by kernel_rfl) ?_
 have hl44 := (zeroTail_some hm42).2.2.2.symm
 refine JO_keep [37, 36, 5, 0] (sl' := [(37, vi y39.1.1), (36, .v (.slice a0_0 y39.1.2.length c0_0)), (5, vi y39.1.1), (0, .v (.slice a0_0 y39.1.2.length c0_0))]) (by kernel_rfl) ?_
 refine JO_eqE (sl' := [(37, vi y39.1.1), (36, .v (.slice a0_0 l41.length c0_0)), (5, vi y39.1.1), (0, .v (.slice a0_0 l41.length c0_0))]) (bx' := []) (by simp only [hl44]) rfl ?_
 refine oe (nt (qs (qr (oN 2 [(40, vi y39.1.1), (39, .v (.slice a0_0 l41.length c0_0))] [] ?_))))
 obtain ⟨l45, hm46, h47⟩ := bS h43
 refine JO_headR (α := Fact) rfl (by kernel_rfl) (a0 := a0_0) (n0 := l41.length) (c0 := c0_0) (hi := y39.1.1) (by kernel_rfl) hm46 (Rr := []) rfl (sl' := [(41, .v (.slice a0_0 l45.length c0_0)), (40, vi y39.1.1), (39, .v (.slice a0_0 l41.length c0_0))]) (by kernel_rfl) ?_
 refine JO_keep [41, 40] (sl' := [(41, .v (.slice a0_0 l45.length c0_0)), (40, vi y39.1.1)]) (by kernel_rfl) ?_
 refine oN 1 [(4, .v (.slice a0_0 l45.length c0_0))] [] ?_
 refine oe (nt (qe (rt [.slice a0_0 l45.length c0_0] (fun γ w hs => ?_))))
 rw [← sI h47]
 exact hs.turned (is := [0]) rfl

theorem c_impl_StoreAsOf {W : World} {x0 : Store} {a0_0 : Option Addr} {c0_0 : Nat} {x1 : Int} {r : Store} (h : impl_StoreAsOf x0 x1 = some r) (hv0_0 : SlView W x0.Facts a0_0 c0_0) :
    Gives Try.prog 29 #[vStore x0 (a0_0, c0_0), .int .i64 x1] W (fun y : AC => vStore r y) (fun y => [SlRes 79 r.Facts y.1 y.2]) := by
 unfold impl_StoreAsOf at h
 refine en Try.func29 Try.ntmps29 ?_
 refine qs (qr (oB 3 [(4, .p 2 0), (3, .p 1 0), (2, .p 0 0)] [] [(29, (eStore x0 (a0_0, c0_0))), (3, [.int .i64 x1]), (29, [.slice none 0 0])] ?_))
 refine oe (nt (qs (qr (oN 2 [(6, .v (.slice a0_0 x0.Facts.length c0_0))] [4, 3] ?_))))
 obtain ⟨t21, h22, h23⟩ := bS h
 refine k1 (fun γ w hs => c_slices_Clone_Fact h22 (hv0_0.kept hs.kept)) (fun y24 => ?_)
 refine JO_mkfunc rfl (by kernel_rfl) (x := .f 69 [(1, 0)]) (by kernel_rfl) rfl ?_
 obtain ⟨t25, h26, h27⟩ := bS h23
 refine JO_callMD [1] rfl (by kernel_rfl) (f := 67) (args := fun γ => #[.slice y24.1 t21.length y24.2, .func (.func 69) #[] #[.pointer (some ⟨γ.getD 1 0, 0, none⟩)]]) (fun γ => by kernel_rfl) (x := .slice y24.1 t25.length y24.2) (by kernel_rfl) (Rin := [SlRes 79 t21 y24.1 y24.2]) (Rout := [SlRes 79 t25 y24.1 y24.2]) (Rr := []) rfl (fun γ w hs => (by have vv := c_slices_DeleteFunc_Fact__impl_StoreAsOf_1 (a0_0 := y24.1) (c0_0 := y24.2) (W := w) h26 (hs.boxCells (k := 1) (e := 3) (by kernel_rfl)); exact vv)) (sl' := [(9, .v (.slice y24.1 t25.length y24.2)), (8, .f 69 [(1, 0)]), (7, .v (.slice y24.1 t21.length y24.2)), (6, .v (.slice a0_0 x0.Facts.length c0_0)), (4, .p 2 0), (3, .p 1 0)]) (by kernel_rfl) ?_
 refine JO_keep [9, 8, 6, 4, 3] (sl' := [(9, .v (.slice y24.1 t25.length y24.2)), (8, .f 69 [(1, 0)]), (6, .v (.slice a0_0 x0.Facts.length c0_0)), (4, .p 2 0), (3, .p 1 0)]) (by kernel_rfl) ?_
 refine oB 2 [] [4] [(29, (eStore x0 (a0_0, c0_0))), (3, [.int .i64 x1]), (29, (eStore (Store.mk t25) y24))] ?_
 refine oe (nt (qe (rt [vStore (Store.mk t25) y24] (fun γ w hs => ?_))))
 rw [← sI h27]
 exact ⟨y24, rfl, hs.kept.toBelow, (hs.takeR (is := [0]) rfl).fresh⟩

theorem c_impl_SeriesAsOf_1 {W : World} {x0 : Point} {gf_0 : Nat} {zf_0 : Int} {r : Bool} (h : impl_SeriesAsOf_1 x0 zf_0 = some r) (hcf_0 : CellsAt W (some ⟨gf_0, 0, none⟩) 0 [.int .i64 zf_0]) :
    Gives0 Try.prog 32 #[vPoint x0, .pointer (some ⟨gf_0, 0, none⟩)] W (.bool r) := by
 unfold impl_SeriesAsOf_1 at h
 refine enterD [.v (vPoint x0), .q (some ⟨gf_0, 0, none⟩) (0)] (args := [vPoint x0, .pointer (some ⟨gf_0, 0, none⟩)]) (by kernel_rfl) (by kernel_rfl) Try.func32 rfl Try.ntmps32 (by kernel_rfl) ?_
 refine qs (qr (oB 2 [(2, .p 0 0)] [1] [(75, (ePoint x0))] ?_))
 refine oe (nt (qs (qr (oN 2 [(5, vi x0.Known)] [1] ?_))))
 refine ol 3 0 (.int .i64 zf_0) (fun γ w hs => ⟨by simp, hcf_0.kept hs.kept⟩) ?_
 refine oN 2 [(3, vb (decide (x0.Known > zf_0)))] [] ?_
 refine oe (nt (qe ?_))
 obtain rfl := sI h
 exact re [.bool (decide (x0.Known > zf_0))]

theorem c_slices_IndexFunc_Point__impl_SeriesAsOf_1 {W : World} {x0 : List Point} {a0_0 : Option Addr} {c0_0 : Nat} {g1_0 : Nat} {z1_0 : Int} {r : Int} (h : slices_IndexFunc_Point__impl_SeriesAsOf_1 x0 z1_0 = some r) (hv0_0 : SlView W x0 a0_0 c0_0) (hc1_0 : CellsAt W (some ⟨g1_0, 0, none⟩) 0 [.int .i64 z1_0]) :
    Gives0 Try.prog 70 #[.slice a0_0 x0.length c0_0, .func (.func 32) #[] #[.pointer (some ⟨g1_0, 0, none⟩)]] W (.int .i64 r) := by
 unfold slices_IndexFunc_Point__impl_SeriesAsOf_1 at h
 refine en Try.func70 Try.ntmps70 ?_
 refine qs (qr (oN 1 [] [0, 1] ?_))
 refine oe (nt (qs (qs (qr (oN 3 [(8, vi 0), (7, vi (x0.length : Int))] [0, 1] ?_)))))
 refine oe (nt ?_)
 obtain ⟨r24, hL25, h26⟩ := bS h
 obtain ⟨k27, hk28, h26⟩ := brkS h26
 refine JC_cutP (τ := (Unit) × (Unit)) (fun y => k27 y.1 = some r) (fun y32 => []) (fun y32 => []) (fun y32 => []) ?_ (fun y32 h33p => ?_)
 · refine qb (lp Unit hL25 (fun s21 y22 => [(8, vi s21), (7, vi (x0.length : Int)), (0, .v (.slice a0_0 x0.length c0_0)), (1, .v (.func (.func 32) #[] #[.pointer (some ⟨g1_0, 0, none⟩)]))]) (fun s21 y22 => []) (fun s21 y22 => []) () [8, 7, 0, 1] [] 0 (fun s21 y22 t23 h29 hd30 => ?_))
   refine qs (qr (oN 1 [(9, vb (decide (s21 < (x0.length : Int))))] [8, 7, 0, 1] ?_))
   refine oe (nt (qs (cC h29 (fun h35 => ?_) (fun h36 => ?_))))
   · refine qk (nt (qs (qb (qs (qr (oN 2 [(5, vi s21)] [8, 7, 0, 1] ?_))))))
     refine oe (nt (qs (qr (oN 3 [(13, vi s21), (12, .v (.slice a0_0 x0.length c0_0)), (11, .v (.func (.func 32) #[] #[.pointer (some ⟨g1_0, 0, none⟩)]))] [5, 8, 7, 0, 1] ?_))))
     obtain ⟨x37, hx38, h39⟩ := bS h35
     refine oi 3 (fun γ w hs => (hv0_0.kept hs.kept)) hx38 ?_
     refine ol 75 0 (vPoint x37) (fun γ w hs => (hv0_0.kept hs.kept).flatq hx38) ?_
     obtain ⟨t40, h41, h42⟩ := bS h39
     refine k0 (fun γ w hs => c_impl_SeriesAsOf_1 h41 (hc1_0.kept hs.kept)) ?_
     refine oe (nt (cC h42 (fun h45 => ?_) (fun h46 => ?_)))
     · refine qs (qr (oN 2 [(4, vi s21)] [] ?_))
       refine oe (nt (qe (br (nr (nr ?_)))))
       have h47 := leafR hd30 h45 h26
       refine br (nr (nr ?_))
       obtain rfl := sI h47
       exact re [.int .i64 s21]
     refine qk (bn (nt (qr (oN 2 [(8, vi (w64 (s21 + 1)))] [7, 0, 1] ?_))))
     exact oe (ct h46 () [8, 7, 0, 1] [] 0)
   refine qx (nx (nx (bh ?_)))
   have h48 := leafB hd30 h36 h26
   exact mp ((), ()) h48 [] [] 0
 have h33 := (congrFun hk28 _).symm.trans h33p
 refine nt (qs (qr (oN 1 [(4, vi (-1))] [] ?_)))
 refine oe (nt (qe ?_))
 obtain rfl := sI h33
 exact re [.int .i64 (-1)]

theorem c_slices_DeleteFunc_Point__impl_SeriesAsOf_1 {W : World} {x0 : List Point} {a0_0 : Option Addr} {c0_0 : Nat} {g1_0 : Nat} {z1_0 : Int} {r : (List Point)} (h : slices_DeleteFunc_Point__impl_SeriesAsOf_1 x0 z1_0 = some r) (hc1_0 : CellsAt W (some ⟨g1_0, 0, none⟩) 0 [.int .i64 z1_0]) :
    GivesMD Try.prog [g1_0] 30 #[.slice a0_0 x0.length c0_0, .func (.func 32) #[] #[.pointer (some ⟨g1_0, 0, none⟩)]] W [SlRes 75 x0 a0_0 c0_0] [SlRes 75 r a0_0 c0_0] (.slice a0_0 r.length c0_0) := by
 unfold slices_DeleteFunc_Point__impl_SeriesAsOf_1 at h
 refine enterMD [.v (.slice a0_0 x0.length c0_0), .v (.func (.func 32) #[] #[.pointer (some ⟨g1_0, 0, none⟩)])] (args := [.slice a0_0 x0.length c0_0, .func (.func 32) #[] #[.pointer (some ⟨g1_0, 0, none⟩)]]) (by kernel_rfl) (by kernel_rfl) Try.func30 rfl Try.ntmps30 (by kernel_rfl) (fun Fs hG => ?_)
 refine qs (qr (oN 1 [] [0, 1] ?_))
 refine oe (nt (qs (qr (oN 2 [(9, .v (.func (.func 32) #[] #[.pointer (some ⟨g1_0, 0, none⟩)])), (8, .v (.slice a0_0 x0.length c0_0))] [0, 1] ?_))))
 obtain ⟨t21, h22, h23⟩ := bS h
 refine k0 (fun γ w hs => c_slices_IndexFunc_Point__impl_SeriesAsOf_1 h22 (hs.view 0 rfl) (hc1_0.keptM hs.kept (hG _ (by simp)))) ?_
 refine oN 1 [(5, vi t21)] [0, 1] ?_
 refine oe (nt (qs (qs (qr (oN 2 [(12, vb (t21 == (-1)))] [5, 0, 1] ?_)))))
 refine oe (nt (cC h23 (fun h26 => ?_) (fun h27 => ?_)))
 · refine qs (qr (oN 2 [(4, .v (.slice a0_0 x0.length c0_0))] [] ?_))
   refine oe (nt (qe (nr (rt [.slice a0_0 x0.length c0_0] (fun γ w hs => ?_)))))
   rw [← sI h26]
   exact hs.turned (is := [0]) rfl
 refine qk (nt (qs (qs (qr (oN 3 [(6, vi (w64 (t21 + 1)))] [5, 0, 1] ?_)))))
 refine oe (nt ?_)
 obtain ⟨r31, hL32, h33⟩ := bS h27
 obtain ⟨k34, hk35, h33⟩ := brkS h33
 refine JC_cutP (τ := (Int × (List Point)) × (Unit)) (fun y => k34 y.1 = some r) (fun y39 => [(5, vi y39.1.1), (0, .v (.slice a0_0 y39.1.2.length c0_0))]) (fun y39 => []) (fun y39 => [SlRes 75 y39.1.2 a0_0 c0_0]) ?_ (fun y39 h40p => ?_)
 · refine qb (lp Unit hL32 (fun s28 y29 => [(6, vi s28.1), (5, vi s28.2.1), (0, .v (.slice a0_0 s28.2.2.length c0_0)), (1, .v (.func (.func 32) #[] #[.pointer (some ⟨g1_0, 0, none⟩)]))]) (fun s28 y29 => []) (fun s28 y29 => [SlRes 75 s28.2.2 a0_0 c0_0]) () [6, 5, 0, 1] [0] 0 (fun s28 y29 t30 h36 hd37 => ?_))
   refine qs (qs (qr (oN 4 [(19, vb (decide (s28.1 < (s28.2.2.length : Int))))] [6, 5, 0, 1] ?_)))
   refine oe (nt (cC h36 (fun h49 => ?_) (fun h50 => ?_)))
   · refine qk (nt (qs (qb (qs (qr (oN 2 [(23, vi s28.1), (22, .v (.slice a0_0 s28.2.2.length c0_0))] [6, 5, 0, 1] ?_))))))
     obtain ⟨x51, hx52, h53⟩ := bS h49
     refine oi 3 (fun γ w hs => (hs.view 0 rfl)) hx52 ?_
     refine ol 75 0 (vPoint x51) (fun γ w hs => (hs.view 0 rfl).flatq hx52) ?_
     refine oB 2 [(7, .p 0 0)] [6, 5, 0, 1] [(75, (ePoint x51))] ?_
     refine oe (nt (qs (qr (oN 2 [(27, .v (vPoint x51)), (26, .v (.func (.func 32) #[] #[.pointer (some ⟨g1_0, 0, none⟩)]))] [7, 6, 5, 0, 1] ?_))))
     obtain ⟨t54, h55, h56⟩ := bS h53
     refine k0 (fun γ w hs => c_impl_SeriesAsOf_1 h55 (hc1_0.keptM hs.kept (hG _ (by simp)))) ?_
     refine oN 1 [(29, vb (!t54))] [7, 6, 5, 0, 1] ?_
     refine oe (nt ?_)
     obtain ⟨k68, hk69, h71⟩ := jS h56
     refine JC_cutP (τ := (Int × (List Point)) × (Unit)) (fun y => k68 y.1 = some t30) (fun y67 => [(6, vi s28.1), (5, vi y67.1.1), (0, .v (.slice a0_0 y67.1.2.length c0_0)), (1, .v (.func (.func 32) #[] #[.pointer (some ⟨g1_0, 0, none⟩)]))]) (fun y67 => [(75, (ePoint x51))]) (fun y67 => [SlRes 75 y67.1.2 a0_0 c0_0]) ?_ (fun y67 h70p => ?_)
     · refine cC h71 (fun h73 => ?_) (fun h74 => ?_)
       · refine qs (qr (oN 3 [(32, .v (vPoint x51)), (31, vi s28.2.1), (30, .v (.slice a0_0 s28.2.2.length c0_0))] [6, 5, 0, 1] ?_))
         obtain ⟨x75, hx76, h77⟩ := bS h73
         refine oi 3 (fun γ w hs => (hs.view 0 rfl)) hx76 ?_
         obtain ⟨l78, hm79, h80⟩ := bS h77
         replace hm79 := (sI hm79).symm
         refine JO_storeq (α := Point) (d := a0_0) (vs := [.int .i64 x51.Month, .int .i64 x51.Known, .int .i64 x51.Value]) (j := s28.2.1) (x' := x51) rfl (by kernel_rfl) 0 (by kernel_rfl) hx76 (Rc := []) (Rr := []) rfl (by kernel_rfl) (fun w c F Fs ho _ _ => own_flat_set (by kernel_rfl) ho) hm79 rfl ?_
         have hl81 := len_set hm79
         refine JO_keep [32, 31, 30, 6, 5, 0, 1] (sl' := [(32, .v (vPoint x51)), (31, vi s28.2.1), (30, .v (.slice a0_0 s28.2.2.length c0_0)), (6, vi s28.1), (5, vi s28.2.1), (0, .v (.slice a0_0 s28.2.2.length c0_0)), (1, .v (.func (.func 32) #[] #[.pointer (some ⟨g1_0, 0, none⟩)]))]) (by kernel_rfl) ?_
         refine JO_eqE (sl' := [(32, .v (vPoint x51)), (31, vi s28.2.1), (30, .v (.slice a0_0 l78.length c0_0)), (6, vi s28.1), (5, vi s28.2.1), (0, .v (.slice a0_0 l78.length c0_0)), (1, .v (.func (.func 32) #[] #[.pointer (some ⟨g1_0, 0, none⟩)]))]) (bx' := [(75, (ePoint x51))]) (by simp only [ePoint, vPoint, hl81]) rfl ?_
         refine oe (nt (qr (oN 3 [(5, vi (w64 (s28.2.1 + 1)))] [6, 0, 1] ?_)))
         exact oe (mp ((w64 (s28.2.1 + 1), l78), ()) h80 [6, 5, 0, 1] [0] 1)
       exact qk (mp ((s28.2.1, s28.2.2), ()) h74 [6, 5, 0, 1] [0] 1)
     have h70 := (congrFun hk69 _).symm.trans h70p
     refine bn (nt (qr (oN 3 [(6, vi (w64 (s28.1 + 1)))] [5, 0, 1] ?_)))
     exact oe (ct h70 () [6, 5, 0, 1] [0] 0)
   refine qx (nx (nx (bh ?_)))
   have h82 := leafB hd37 h50 h33
   exact mp ((s28.2.1, s28.2.2), ()) h82 [5, 0] [0] 0
 have h40 := (congrFun hk35 _).symm.trans h40p
 refine nt (qs (qr (oN 2 [(37, vi y39.1.1), (36, .v (.slice a0_0 y39.1.2.length c0_0))] [5, 0] ?_)))
 obtain ⟨l41, hm42, h43⟩ := bS h40
 refine JO_tail (α := Point) (s := 3) (a0 := a0_0) (c0 := c0_0) (lo := y39.1.1) rfl (by kernel_rfl) (by kernel_rfl) hm42 (sl' := [(38, .v (.slice (tailA a0_0 c0_0 y39.1.1 3) (y39.1.2.length - Int.toNat y39.1.1) (c0_0 - Int.toNat y39.1.1))), (37, vi y39.1.1), (36, .v (.slice a0_0 y39.1.2.length c0_0)), (5, vi y39.1.1), (0, .v (.slice a0_0 y39.1.2.length c0_0))]) (by kernel_rfl) ?_
 refine JO_clear (α := Point) (e := 75) (a0 := a0_0) (c0 := c0_0) (lo := y39.1.1) rfl (by kernel_rfl) (by kernel_rfl) (i := Try.t75) (by kernel_rfl) (z := vPoint (Point.mk 0 0 0)) (by kernel_rfl) (by kernel_rfl) hm42 (Rr := []) rfl (sl' := [(38, .v (.slice (tailA a0_0 c0_0 y39.1.1 3) (y39.1.2.length - Int.toNat y39.1.1) (c0_0 - Int.toNat y39.1.1))), (37, vi y39.1.1), (36, .v (.slice a0_0 y39.1.2.length c0_0)), (5, vi y39.1.1), (0, .v (.slice a0_0 y39.1.2.length c0_0))]) (by kernel_rfl) ?_
 have hl44 := (zeroTail_some hm42).2.2.2.symm
 refine JO_keep [37, 36, 5, 0] (sl' := [(37, vi y39.1.1), (36, .v (.slice a0_0 y39.1.2.length c0_0)), (5, vi y39.1.1), (0, .v (.slice a0_0 y39.1.2.length c0_0))]) (by kernel_rfl) ?_
 refine JO_eqE (sl' := [(37, vi y39.1.1), (36, .v (.slice a0_0 l41.length c0_0)), (5, vi y39.1.1), (0, .v (.slice a0_0 l41.length c0_0))]) (bx' := []) (by simp only [hl44]) rfl ?_
 refine oe (nt (qs (qr (oN 2 [(40, vi y39.1.1), (39, .v (.slice a0_0 l41.length c0_0))] [] ?_))))
 obtain ⟨l45, hm46, h47⟩ := bS h43
 refine JO_headR (α := Point) rfl (by kernel_rfl) (a0 := a0_0) (n0 := l41.length) (c0 := c0_0) (hi := y39.1.1) (by kernel_rfl) hm46 (Rr := []) rfl (sl' := [(41, .v (.slice a0_0 l45.length c0_0)), (40, vi y39.1.1), (39, .v (.slice a0_0 l41.length c0_0))]) (by kernel_rfl) ?_
 refine JO_keep [41, 40] (sl' := [(41, .v (.slice a0_0 l45.length c0_0)), (40, vi y39.1.1)]) (by kernel_rfl) ?_
 refine oN 1 [(4, .v (.slice a0_0 l45.length c0_0))] [] ?_
 refine oe (nt (qe (rt [.slice a0_0 l45.length c0_0] (fun γ w hs => ?_))))
 rw [← sI h47]
 exact hs.turned (is := [0]) rfl

theorem c_impl_SeriesAsOf {W : World} {x0 : Series} {a0_0 : Option Addr} {c0_0 : Nat} {x1 : Int} {r : Series} (h : impl_SeriesAsOf x0 x1 = some r) (hv0_0 : SlView W x0.Points a0_0 c0_0) :
    Gives Try.prog 13 #[vSeries x0 (a0_0, c0_0), .int .i64 x1] W (fun y : AC => vSeries r y) (fun y => [SlRes 75 r.Points y.1 y.2]) := by
 unfold impl_SeriesAsOf at h
 refine en Try.func13 Try.ntmps13 ?_
 refine qs (qr (oB 3 [(4, .p 2 0), (3, .p 1 0), (2, .p 0 0)] [] [(32, (eSeries x0 (a0_0, c0_0))), (3, [.int .i64 x1]), (32, [.slice none 0 0])] ?_))
 refine oe (nt (qs (qr (oN 2 [(6, .v (.slice a0_0 x0.Points.length c0_0))] [4, 3] ?_))))
 obtain ⟨t21, h22, h23⟩ := bS h
 refine k1 (fun γ w hs => c_slices_Clone_Point h22 (hv0_0.kept hs.kept)) (fun y24 => ?_)
 refine JO_mkfunc rfl (by kernel_rfl) (x := .f 32 [(1, 0)]) (by kernel_rfl) rfl ?_
 obtain ⟨t25, h26, h27⟩ := bS h23
 refine JO_callMD [1] rfl (by kernel_rfl) (f := 30) (args := fun γ => #[.slice y24.1 t21.length y24.2, .func (.func 32) #[] #[.pointer (some ⟨γ.getD 1 0, 0, none⟩)]]) (fun γ => by kernel_rfl) (x := .slice y24.1 t25.length y24.2) (by kernel_rfl) (Rin := [SlRes 75 t21 y24.1 y24.2]) (Rout := [SlRes 75 t25 y24.1 y24.2]) (Rr := []) rfl (fun γ w hs => (by have vv := c_slices_DeleteFunc_Point__impl_SeriesAsOf_1 (a0_0 := y24.1) (c0_0 := y24.2) (W := w) h26 (hs.boxCells (k := 1) (e := 3) (by kernel_rfl)); exact vv)) (sl' := [(9, .v (.slice y24.1 t25.length y24.2)), (8, .f 32 [(1, 0)]), (7, .v (.slice y24.1 t21.length y24.2)), (6, .v (.slice a0_0 x0.Points.length c0_0)), (4, .p 2 0), (3, .p 1 0)]) (by kernel_rfl) ?_
 refine JO_keep [9, 8, 6, 4, 3] (sl' := [(9, .v (.slice y24.1 t25.length y24.2)), (8, .f 32 [(1, 0)]), (6, .v (.slice a0_0 x0.Points.length c0_0)), (4, .p 2 0), (3, .p 1 0)]) (by kernel_rfl) ?_
 refine oB 2 [] [4] [(32, (eSeries x0 (a0_0, c0_0))), (3, [.int .i64 x1]), (32, (eSeries (Series.mk t25) y24))] ?_
 refine oe (nt (qe (rt [vSeries (Series.mk t25) y24] (fun γ w hs => ?_))))
 rw [← sI h27]
 exact ⟨y24, rfl, hs.kept.toBelow, (hs.takeR (is := [0]) rfl).fresh⟩

theorem c_impl_CaseAsOf {W : World} {x0 : Case} {b0 : AC × AC × AC × AC × AC} {x1 : Int} {r : Case} (h : impl_CaseAsOf x0 x1 = some r) (hv0_0 : SlView W x0.Book.Rules b0.1.1 b0.1.2) (hv0_1 : SlView W x0.Store.Facts b0.2.1.1 b0.2.1.2) (hv0_2 : SlView W x0.Series.Points b0.2.2.1.1 b0.2.2.1.2) (hv0_3 : SlView W x0.Member.Spells b0.2.2.2.1.1 b0.2.2.2.1.2) (hv0_4 : SlView W x0.Member.Events b0.2.2.2.2.1 b0.2.2.2.2.2) :
    Gives Try.prog 12 #[vCase x0 b0, .int .i64 x1] W (fun y : AC × AC × AC × AC × AC => vCase r y) (fun y => [SlRes 48 r.Book.Rules y.1.1 y.1.2, SlRes 79 r.Store.Facts y.2.1.1 y.2.1.2, SlRes 75 r.Series.Points y.2.2.1.1 y.2.2.1.2, SlRes 94 r.Member.Spells y.2.2.2.1.1 y.2.2.2.1.2, SlRes 97 r.Member.Events y.2.2.2.2.1 y.2.2.2.2.2]) := by
 unfold impl_CaseAsOf at h
 refine en Try.func12 Try.ntmps12 ?_
 refine qs (qr (oB 2 [(4, .p 1 0), (2, .p 0 0)] [1] [(38, (eCase x0 b0)), (38, [.slice none 0 0, .slice none 0 0, .slice none 0 0, .int .i64 0, .int .i64 0, .slice none 0 0, .slice none 0 0])] ?_))
 refine oe (nt (qs (qr (oN 1 [(6, .v (vCase x0 b0))] [4, 2, 1] ?_))))
 obtain ⟨t21, h22, h23⟩ := bS h
 refine k1 (fun γ w hs => c_impl_copyCase (b0 := b0) h22 (hv0_0.kept hs.kept) (hv0_1.kept hs.kept) (hv0_2.kept hs.kept) (hv0_3.kept hs.kept) (hv0_4.kept hs.kept)) (fun y24 => ?_)
 refine oB 2 [(5, .p 2 0)] [4, 2, 1] [(38, (eCase x0 b0)), (38, [.slice none 0 0, .slice none 0 0, .slice none 0 0, .int .i64 0, .int .i64 0, .slice none 0 0, .slice none 0 0]), (38, (eCase t21 y24))] ?_
 refine oe (nt (qs (qr (oN 3 [(10, vi x1), (9, .v (vStore x0.Store b0.2.1))] [5, 4, 2, 1] ?_))))
 obtain ⟨t25, h26, h27⟩ := bS h23
 refine k1 (fun γ w hs => c_impl_StoreAsOf h26 (hv0_1.kept hs.kept)) (fun y28 => ?_)
 refine oB 2 [] [5, 4, 2, 1] [(38, (eCase x0 b0)), (38, [.slice none 0 0, .slice none 0 0, .slice none 0 0, .int .i64 0, .int .i64 0, .slice none 0 0, .slice none 0 0]), (38, (eCase (Case.mk t21.Book t25 t21.Series t21.Member) (y24.1, y28, y24.2.2.1, y24.2.2.2.1, y24.2.2.2.2)))] ?_
 refine oe (nt (qs (qr (oN 3 [(15, vi x1), (14, .v (vSeries x0.Series b0.2.2.1))] [5, 4] ?_))))
 obtain ⟨t29, h30, h31⟩ := bS h27
 refine k1 (fun γ w hs => c_impl_SeriesAsOf h30 (hv0_2.kept hs.kept)) (fun y32 => ?_)
 refine oB 2 [] [5, 4] [(38, (eCase x0 b0)), (38, [.slice none 0 0, .slice none 0 0, .slice none 0 0, .int .i64 0, .int .i64 0, .slice none 0 0, .slice none 0 0]), (38, (eCase (Case.mk t21.Book t25 t29 t21.Member) (y24.1, y28, y32, y24.2.2.2.1, y24.2.2.2.2)))] ?_
 refine oe (nt (qs (qr (oB 2 [] [4] [(38, (eCase x0 b0)), (38, (eCase (Case.mk t21.Book t25 t29 t21.Member) (y24.1, y28, y32, y24.2.2.2.1, y24.2.2.2.2))), (38, (eCase (Case.mk t21.Book t25 t29 t21.Member) (y24.1, y28, y32, y24.2.2.2.1, y24.2.2.2.2)))] ?_))))
 refine oe (nt (qe (rt [vCase (Case.mk t21.Book t25 t29 t21.Member) (y24.1, y28, y32, y24.2.2.2.1, y24.2.2.2.2)] (fun γ w hs => ?_))))
 rw [← sI h31]
 exact ⟨(y24.1, y28, y32, y24.2.2.2.1, y24.2.2.2.2), rfl, hs.kept.toBelow, (hs.takeR (is := [2, 1, 0, 2, 2]) rfl).fresh⟩

theorem c_laws_sameFacts {W : World} {x0 : List Fact} {a0_0 : Option Addr} {c0_0 : Nat} {x1 : List Fact} {a1_0 : Option Addr} {c1_0 : Nat} {r : Bool} (h : laws_sameFacts x0 x1 = some r) (hv0_0 : SlView W x0 a0_0 c0_0) (hv1_0 : SlView W x1 a1_0 c1_0) :
    Gives0 Try.prog 14 #[.slice a0_0 x0.length c0_0, .slice a1_0 x1.length c1_0] W (.bool r) := by
 unfold laws_sameFacts at h
 refine en Try.func14 Try.ntmps14 ?_
 refine qs (qr (oN 1 [] [0, 1] ?_))
 refine oe (nt (qs (qs (qr (oN 5 [(10, vb ((x0.length : Int) != (x1.length : Int)))] [0, 1] ?_)))))
 refine oe (nt (cC h (fun h22 => ?_) (fun h23 => ?_)))
 · refine qs (qr (oN 1 [(4, vb false)] [] ?_))
   refine oe (nt (qe (nr ?_)))
   obtain rfl := sI h22
   exact re [.bool false]
 refine qk (nt (qs (qs (qr (oN 1 [(5, vi 0)] [0, 1] ?_)))))
 refine oe (nt ?_)
 obtain ⟨r27, hL28, h29⟩ := bS h23
 obtain ⟨k30, hk31, h29⟩ := brkS h29
 refine JC_cutP (τ := (Unit) × (Unit)) (fun y => k30 y.1 = some r) (fun y35 => []) (fun y35 => []) (fun y35 => []) ?_ (fun y35 h36p => ?_)
 · refine qb (lp Unit hL28 (fun s24 y25 => [(5, vi s24), (0, .v (.slice a0_0 x0.length c0_0)), (1, .v (.slice a1_0 x1.length c1_0))]) (fun s24 y25 => []) (fun s24 y25 => []) () [5, 0, 1] [] 0 (fun s24 y25 t26 h32 hd33 => ?_))
   refine qs (qs (qr (oN 4 [(14, vb (decide (s24 < (x0.length : Int))))] [5, 0, 1] ?_)))
   refine oe (nt (cC h32 (fun h38 => ?_) (fun h39 => ?_)))
   · refine qk (nt (qs (qb (qs (JC_quiet (by kernel_rfl) (by kernel_rfl) ?_)))))
     refine qN 2 [(18, vi s24), (17, .v (.slice a0_0 x0.length c0_0))] [5, 0, 1] ?_
     obtain ⟨x40, hx41, h42⟩ := bS h38
     refine qi 5 (fun γ w hs => (hv0_0.kept hs.kept)) hx41 ?_
     refine ql 79 0 (vFact x40) (fun γ w hs => (hv0_0.kept hs.kept).flatq hx41) ?_
     refine qN 2 [(22, vi s24), (21, .v (.slice a1_0 x1.length c1_0))] [20, 5, 0, 1] ?_
     obtain ⟨x43, hx44, h45⟩ := bS h42
     refine qi 5 (fun γ w hs => (hv1_0.kept hs.kept)) hx44 ?_
     refine ql 79 0 (vFact x43) (fun γ w hs => (hv1_0.kept hs.kept).flatq hx44) ?_
     refine qN 1 [(25, vb (!((x40.Key == x43.Key) && ((x40.From == x43.From) && ((x40.To == x43.To) && ((x40.Known == x43.Known) && ((x40.Value == x43.Value) && true)))))))] [5, 0, 1] ?_
     refine qz (nt (cC h45 (fun h47 => ?_) (fun h48 => ?_)))
     · refine qs (qr (oN 1 [(4, vb false)] [] ?_))
       refine oe (nt (qe (br (nr (nr ?_)))))
       have h49 := leafR hd33 h47 h29
       refine br (nr (nr ?_))
       obtain rfl := sI h49
       exact re [.bool false]
     refine qk (bn (nt (qr (oN 3 [(5, vi (w64 (s24 + 1)))] [0, 1] ?_))))
     exact oe (ct h48 () [5, 0, 1] [] 0)
   refine qx (nx (nx (bh ?_)))
   have h50 := leafB hd33 h39 h29
   exact mp ((), ()) h50 [] [] 0
 have h36 := (congrFun hk31 _).symm.trans h36p
 refine nt (qs (qr (oN 1 [(4, vb true)] [] ?_)))
 refine oe (nt (qe ?_))
 obtain rfl := sI h36
 exact re [.bool true]

theorem c_laws_samePoints {W : World} {x0 : List Point} {a0_0 : Option Addr} {c0_0 : Nat} {x1 : List Point} {a1_0 : Option Addr} {c1_0 : Nat} {r : Bool} (h : laws_samePoints x0 x1 = some r) (hv0_0 : SlView W x0 a0_0 c0_0) (hv1_0 : SlView W x1 a1_0 c1_0) :
    Gives0 Try.prog 15 #[.slice a0_0 x0.length c0_0, .slice a1_0 x1.length c1_0] W (.bool r) := by
 unfold laws_samePoints at h
 refine en Try.func15 Try.ntmps15 ?_
 refine qs (qr (oN 1 [] [0, 1] ?_))
 refine oe (nt (qs (qs (qr (oN 5 [(10, vb ((x0.length : Int) != (x1.length : Int)))] [0, 1] ?_)))))
 refine oe (nt (cC h (fun h22 => ?_) (fun h23 => ?_)))
 · refine qs (qr (oN 1 [(4, vb false)] [] ?_))
   refine oe (nt (qe (nr ?_)))
   obtain rfl := sI h22
   exact re [.bool false]
 refine qk (nt (qs (qs (qr (oN 1 [(5, vi 0)] [0, 1] ?_)))))
 refine oe (nt ?_)
 obtain ⟨r27, hL28, h29⟩ := bS h23
 obtain ⟨k30, hk31, h29⟩ := brkS h29
 refine JC_cutP (τ := (Unit) × (Unit)) (fun y => k30 y.1 = some r) (fun y35 => []) (fun y35 => []) (fun y35 => []) ?_ (fun y35 h36p => ?_)
 · refine qb (lp Unit hL28 (fun s24 y25 => [(5, vi s24), (0, .v (.slice a0_0 x0.length c0_0)), (1, .v (.slice a1_0 x1.length c1_0))]) (fun s24 y25 => []) (fun s24 y25 => []) () [5, 0, 1] [] 0 (fun s24 y25 t26 h32 hd33 => ?_))
   refine qs (qs (qr (oN 4 [(14, vb (decide (s24 < (x0.length : Int))))] [5, 0, 1] ?_)))
   refine oe (nt (cC h32 (fun h38 => ?_) (fun h39 => ?_)))
   · refine qk (nt (qs (qb (qs (JC_quiet (by kernel_rfl) (by kernel_rfl) ?_)))))
     refine qN 2 [(18, vi s24), (17, .v (.slice a0_0 x0.length c0_0))] [5, 0, 1] ?_
     obtain ⟨x40, hx41, h42⟩ := bS h38
     refine qi 3 (fun γ w hs => (hv0_0.kept hs.kept)) hx41 ?_
     refine ql 75 0 (vPoint x40) (fun γ w hs => (hv0_0.kept hs.kept).flatq hx41) ?_
     refine qN 2 [(22, vi s24), (21, .v (.slice a1_0 x1.length c1_0))] [20, 5, 0, 1] ?_
     obtain ⟨x43, hx44, h45⟩ := bS h42
     refine qi 3 (fun γ w hs => (hv1_0.kept hs.kept)) hx44 ?_
     refine ql 75 0 (vPoint x43) (fun γ w hs => (hv1_0.kept hs.kept).flatq hx44) ?_
     refine qN 1 [(25, vb (!((x40.Month == x43.Month) && ((x40.Known == x43.Known) && ((x40.Value == x43.Value) && true)))))] [5, 0, 1] ?_
     refine qz (nt (cC h45 (fun h47 => ?_) (fun h48 => ?_)))
     · refine qs (qr (oN 1 [(4, vb false)] [] ?_))
       refine oe (nt (qe (br (nr (nr ?_)))))
       have h49 := leafR hd33 h47 h29
       refine br (nr (nr ?_))
       obtain rfl := sI h49
       exact re [.bool false]
     refine qk (bn (nt (qr (oN 3 [(5, vi (w64 (s24 + 1)))] [0, 1] ?_))))
     exact oe (ct h48 () [5, 0, 1] [] 0)
   refine qx (nx (nx (bh ?_)))
   have h50 := leafB hd33 h39 h29
   exact mp ((), ()) h50 [] [] 0
 have h36 := (congrFun hk31 _).symm.trans h36p
 refine nt (qs (qr (oN 1 [(4, vb true)] [] ?_)))
 refine oe (nt (qe ?_))
 obtain rfl := sI h36
 exact re [.bool true]

theorem c_impl_within {W : World} {x0 : Int} {x1 : Int} {x2 : Int} {r : Bool} (h : impl_within x0 x1 x2 = some r)  :
    Gives0 Try.prog 34 #[.int .i64 x0, .int .i64 x1, .int .i64 x2] W (.bool r) := by
 unfold impl_within at h
 refine en Try.func34 Try.ntmps34 ?_
 refine qs (qr (oN 1 [] [0, 1, 2] ?_))
 refine oe (nt (qs ?_))
 obtain ⟨p21, hE22, h23⟩ := bS h
 refine JC_cut (τ := Unit) (fun _ => [(6, vb p21)]) (fun _ => []) (fun _ => []) ?_ (fun _ => ?_)
 · refine qr (oN 4 [(10, vb (decide (x1 ≤ x0)))] [0, 2] ?_)
   refine oS 10 hE22 (fun h25 => ?_) (fun h26 => ?_)
   · refine oN 5 [(6, vb (decide (x0 ≤ x2)))] [] ?_
     refine oe ?_
     obtain rfl := sI h25
     exact mt () [6] [] 0
   refine oN 5 [(6, vb false)] [] ?_
   refine oe ?_
   obtain rfl := sI h26
   exact mt () [6] [] 0
 refine nt (qe ?_)
 obtain rfl := sI h23
 exact re [.bool p21]

theorem c_impl_MonthOk {W : World} {x0 : Int} {r : Bool} (h : impl_MonthOk x0 = some r)  :
    Gives0 Try.prog 33 #[.int .i64 x0] W (.bool r) := by
 unfold impl_MonthOk at h
 refine en Try.func33 Try.ntmps33 ?_
 refine qs (qr (oN 1 [] [0] ?_))
 refine oe (nt (qs (qr (oN 1 [(3, vi x0)] [] ?_))))
 obtain ⟨t21, h22, h23⟩ := bS h
 refine k0 (fun γ w hs => c_impl_within h22) ?_
 refine oN 1 [(2, vb t21)] [] ?_
 refine oe (nt (qe ?_))
 obtain rfl := sI h23
 exact re [.bool t21]

theorem c_impl_SeriesOk {W : World} {x0 : Series} {a0_0 : Option Addr} {c0_0 : Nat} {r : Bool} (h : impl_SeriesOk x0 = some r) (hv0_0 : SlView W x0.Points a0_0 c0_0) :
    Gives0 Try.prog 16 #[vSeries x0 (a0_0, c0_0)] W (.bool r) := by
 unfold impl_SeriesOk at h
 refine en Try.func16 Try.ntmps16 ?_
 refine qs (qr (oB 2 [(1, .p 0 0)] [] [(32, (eSeries x0 (a0_0, c0_0)))] ?_))
 refine oe (nt (qs (qs (qr (oN 4 [(8, vi 0), (7, vi (x0.Points.length : Int)), (6, .v (.slice a0_0 x0.Points.length c0_0))] [1] ?_)))))
 refine oe (nt ?_)
 obtain ⟨r24, hL25, h26⟩ := bS h
 obtain ⟨k27, hk28, h26⟩ := brkS h26
 refine JC_cutP (τ := (Unit) × (Unit)) (fun y => k27 y.1 = some r) (fun y32 => [(1, .p 0 0)]) (fun y32 => [(32, (eSeries x0 (a0_0, c0_0)))]) (fun y32 => []) ?_ (fun y32 h33p => ?_)
 · refine qb (lp Unit hL25 (fun s21 y22 => [(8, vi s21), (7, vi (x0.Points.length : Int)), (6, .v (.slice a0_0 x0.Points.length c0_0)), (1, .p 0 0)]) (fun s21 y22 => [(32, (eSeries x0 (a0_0, c0_0)))]) (fun s21 y22 => []) () [8, 7, 6, 1] [] 1 (fun s21 y22 t23 h29 hd30 => ?_))
   refine qs (qr (oN 1 [(9, vb (decide (s21 < (x0.Points.length : Int))))] [8, 7, 6, 1] ?_))
   refine oe (nt (qs (cC h29 (fun h35 => ?_) (fun h36 => ?_))))
   · refine qk (nt (qs (qb (qs (qr (oN 1 [(10, vi s21)] [8, 7, 6, 1] ?_))))))
     obtain ⟨x37, hx38, h39⟩ := bS h35
     refine oi 3 (fun γ w hs => (hv0_0.kept hs.kept)) hx38 ?_
     refine ol 75 0 (vPoint x37) (fun γ w hs => (hv0_0.kept hs.kept).flatq hx38) ?_
     refine oB 3 [(3, vi s21), (4, .p 1 0)] [8, 7, 6, 1] [(32, (eSeries x0 (a0_0, c0_0))), (75, (ePoint x37))] ?_
     refine oe (nt (qs ?_))
     obtain ⟨p40, hE41, h42⟩ := bS h39
     refine JC_cut (τ := Unit) (fun _ => [(1, .p 0 0), (6, .v (.slice a0_0 x0.Points.length c0_0)), (7, vi (x0.Points.length : Int)), (8, vi s21), (51, vb p40)]) (fun _ => [(32, (eSeries x0 (a0_0, c0_0))), (75, (ePoint x37))]) (fun _ => []) ?_ (fun _ => ?_)
     · refine JC_quiet (by kernel_rfl) (by kernel_rfl) ?_
       refine qN 2 [(14, vi x37.Month)] [3, 4, 8, 7, 6, 1] ?_
       obtain ⟨t43, h44, h45⟩ := bS hE41
       refine q0 (fun γ w hs => c_impl_MonthOk h44) ?_
       refine qN 2 [(17, vb (!t43))] [3, 4, 8, 7, 6, 1] ?_
       refine qS 17 h45 (fun h48 => ?_) (fun h49 => ?_)
       · refine qN 34 [(51, vb true)] [8, 7, 6, 1] ?_
         refine qz ?_
         obtain rfl := sI h48
         exact mt () [1, 6, 7, 8, 51] [] 2
       refine qN 2 [(19, vi x37.Known)] [17, 3, 4, 8, 7, 6, 1] ?_
       obtain ⟨t50, h51, h52⟩ := bS h49
       refine q0 (fun γ w hs => c_impl_MonthOk h51) ?_
       refine qN 3 [(23, vb (!t50))] [3, 4, 8, 7, 6, 1] ?_
       refine qS 23 h52 (fun h55 => ?_) (fun h56 => ?_)
       · refine qN 28 [(51, vb true)] [8, 7, 6, 1] ?_
         refine qz ?_
         obtain rfl := sI h55
         exact mt () [1, 6, 7, 8, 51] [] 2
       refine qN 7 [(30, vb (decide (x37.Known < x37.Month)))] [3, 4, 8, 7, 6, 1] ?_
       refine qS 30 h56 (fun h58 => ?_) (fun h59 => ?_)
       · refine qN 21 [(51, vb true)] [8, 7, 6, 1] ?_
         refine qz ?_
         obtain rfl := sI h58
         exact mt () [1, 6, 7, 8, 51] [] 2
       refine qN 2 [(32, vi x37.Value)] [30, 3, 4, 8, 7, 6, 1] ?_
       obtain ⟨t60, h61, h62⟩ := bS h59
       refine q0 (fun γ w hs => c_impl_within h61) ?_
       refine qN 3 [(36, vb (!t60))] [3, 4, 8, 7, 6, 1] ?_
       refine qS 36 h62 (fun h65 => ?_) (fun h66 => ?_)
       · refine qN 15 [(51, vb true)] [8, 7, 6, 1] ?_
         refine qz ?_
         obtain rfl := sI h65
         exact mt () [1, 6, 7, 8, 51] [] 2
       refine qN 3 [(39, vb (decide (s21 > 0)))] [36, 3, 4, 8, 7, 6, 1] ?_
       refine qS 39 h66 (fun h68 => ?_) (fun h69 => ?_)
       · refine qN 4 [(43, vi (w64 (s21 - 1))), (41, .v (.slice a0_0 x0.Points.length c0_0))] [39, 36, 4, 8, 7, 6, 1] ?_
         obtain ⟨x70, hx71, h72⟩ := bS h68
         refine qi 3 (fun γ w hs => (hv0_0.kept hs.kept)) hx71 ?_
         refine qN 1 [(45, .q a0_0 (Int.toNat (w64 (s21 - 1)) * 3 + 1))] [39, 36, 4, 8, 7, 6, 1] ?_
         refine ql 3 1 (.int .i64 x70.Known) (fun γ w hs => (hv0_0.kept hs.kept).flatq hx71) ?_
         refine qN 5 [(51, vb (decide (x70.Known > x37.Known)))] [8, 7, 6, 1] ?_
         refine qz ?_
         obtain rfl := sI h72
         exact mt () [1, 6, 7, 8, 51] [] 2
       refine qN 12 [(51, vb false)] [8, 7, 6, 1] ?_
       refine qz ?_
       obtain rfl := sI h69
       exact mt () [1, 6, 7, 8, 51] [] 2
     refine nt (cC h42 (fun h74 => ?_) (fun h75 => ?_))
     · refine qs (qr (oN 1 [(2, vb false)] [] ?_))
       refine oe (nt (qe (br (nr (nr ?_)))))
       have h76 := leafR hd30 h74 h26
       refine br (nr (nr ?_))
       obtain rfl := sI h76
       exact re [.bool false]
     refine qk (bn (nt (qr (oN 2 [(8, vi (w64 (s21 + 1)))] [1, 6, 7] ?_))))
     exact oe (ct h75 () [8, 7, 6, 1] [] 1)
   refine qx (nx (nx (bh ?_)))
   have h77 := leafB hd30 h36 h26
   exact mp ((), ()) h77 [1] [] 1
 have h33 := (congrFun hk28 _).symm.trans h33p
 refine nt (qs (qr (oN 5 [(2, vb (decide ((x0.Points.length : Int) ≤ 200)))] [] ?_)))
 refine oe (nt (qe ?_))
 obtain rfl := sI h33
 exact re [.bool (decide ((x0.Points.length : Int) ≤ 200))]

theorem c_impl_isSpan {W : World} {x0 : Int} {x1 : Int} {r : Bool} (h : impl_isSpan x0 x1 = some r)  :
    Gives0 Try.prog 102 #[.int .i64 x0, .int .i64 x1] W (.bool r) := by
 unfold impl_isSpan at h
 refine en Try.func102 Try.ntmps102 ?_
 refine qs (qr (oN 1 [] [0, 1] ?_))
 refine oe (nt (qs ?_))
 obtain ⟨p21, hE22, h23⟩ := bS h
 refine JC_cut (τ := Unit) (fun _ => [(4, vb p21)]) (fun _ => []) (fun _ => []) ?_ (fun _ => ?_)
 · refine qr (oN 3 [(7, vb (decide (0 ≤ x0)))] [0, 1] ?_)
   refine oS 7 hE22 (fun h25 => ?_) (fun h26 => ?_)
   · refine oN 5 [(12, vb (decide (x0 < x1)))] [1] ?_
     refine oS 12 h25 (fun h28 => ?_) (fun h29 => ?_)
     · refine oN 4 [(4, vb (decide (x1 ≤ 3600)))] [] ?_
       refine oe ?_
       obtain rfl := sI h28
       exact mt () [4] [] 0
     refine oN 4 [(4, vb false)] [] ?_
     refine oe ?_
     obtain rfl := sI h29
     exact mt () [4] [] 0
   refine oN 9 [(4, vb false)] [] ?_
   refine oe ?_
   obtain rfl := sI h26
   exact mt () [4] [] 0
 refine nt (qe ?_)
 obtain rfl := sI h23
 exact re [.bool p21]

theorem c_impl_gcd {W : World} {x0 : Int} {x1 : Int} {r : Int} (h : impl_gcd x0 x1 = some r)  :
    Gives0 Try.prog 134 #[.int .i64 x0, .int .i64 x1] W (.int .i64 r) := by
 unfold impl_gcd at h
 refine en Try.func134 Try.ntmps134 ?_
 refine qs (qr (oN 1 [] [0, 1] ?_))
 refine oe (nt (qs ?_))
 obtain ⟨r24, hL25, h26⟩ := bS h
 obtain ⟨k27, hk28, h26⟩ := brkS h26
 refine JC_cutP (τ := (Int) × (Unit)) (fun y => k27 y.1 = some r) (fun y32 => [(0, vi y32.1)]) (fun y32 => []) (fun y32 => []) ?_ (fun y32 h33p => ?_)
 · refine qb (lp Unit hL25 (fun s21 y22 => [(0, vi s21.1), (1, vi s21.2)]) (fun s21 y22 => []) (fun s21 y22 => []) () [0, 1] [] 0 (fun s21 y22 t23 h29 hd30 => ?_))
   refine qs (qs (qr (oN 2 [(6, vb (s21.2 != 0))] [0, 1] ?_)))
   refine oe (nt (cC h29 (fun h35 => ?_) (fun h36 => ?_)))
   · refine qk (nt (qb (JC_quiet (by kernel_rfl) (by kernel_rfl) ?_)))
     refine qN 3 [(9, vi s21.2), (8, vi s21.1), (7, vi s21.2)] [] ?_
     obtain ⟨u39, hz38, h37⟩ := bS h35
     refine JQ_div rfl (by kernel_rfl) (op := .rem) (k := .i64) (x := s21.1) (y := s21.2) (by kernel_rfl) (nz_some hz38) rfl ?_
     refine qN 2 [(1, vi (Int.tmod s21.1 s21.2)), (0, vi s21.2)] [] ?_
     exact qz (bn (ct h37 () [0, 1] [] 0))
   refine qx (nx (nx (bh ?_)))
   have h40 := leafB hd30 h36 h26
   exact mp (s21.1, ()) h40 [0] [] 0
 have h33 := (congrFun hk28 _).symm.trans h33p
 refine nt (qs (qr (oN 5 [(4, vi (imax y32.1 (w64 (0 - y32.1))))] [] ?_)))
 refine oe (nt (qe ?_))
 obtain rfl := sI h33
 exact re [.int .i64 (imax y32.1 (w64 (0 - y32.1)))]

theorem c_impl_FracOk {W : World} {x0 : Frac} {r : Bool} (h : impl_FracOk x0 = some r)  :
    Gives0 Try.prog 129 #[vFrac x0] W (.bool r) := by
 unfold impl_FracOk at h
 refine en Try.func129 Try.ntmps129 ?_
 refine qs (qr (oB 2 [(1, .p 0 0)] [] [(66, (eFrac x0))] ?_))
 refine oe (nt (qs ?_))
 obtain ⟨p21, hE22, h23⟩ := bS h
 refine JC_cut (τ := Unit) (fun _ => [(2, vb p21)]) (fun _ => [(66, (eFrac x0))]) (fun _ => []) ?_ (fun _ => ?_)
 · refine qr (oN 2 [(4, vi x0.Den)] [1] ?_)
   obtain ⟨t24, h25, h26⟩ := bS hE22
   refine k0 (fun γ w hs => c_impl_within h25) ?_
   refine oN 1 [(6, vb t24)] [1] ?_
   refine oS 6 h26 (fun h29 => ?_) (fun h30 => ?_)
   · refine oN 2 [(8, vi x0.Num)] [6, 1] ?_
     obtain ⟨t31, h32, h33⟩ := bS h29
     refine k0 (fun γ w hs => c_impl_within h32) ?_
     refine oN 2 [(11, vb t31)] [1] ?_
     refine oS 11 h33 (fun h36 => ?_) (fun h37 => ?_)
     · refine oN 4 [(15, vi x0.Den), (13, vi x0.Num)] [11] ?_
       obtain ⟨t38, h39, h40⟩ := bS h36
       refine k0 (fun γ w hs => c_impl_gcd h39) ?_
       refine oN 3 [(2, vb (t38 == 1))] [] ?_
       refine oe ?_
       obtain rfl := sI h40
       exact mt () [2] [] 1
     refine oN 8 [(2, vb false)] [] ?_
     refine oe ?_
     obtain rfl := sI h37
     exact mt () [2] [] 1
   refine oN 13 [(2, vb false)] [] ?_
   refine oe ?_
   obtain rfl := sI h30
   exact mt () [2] [] 1
 refine nt (qe ?_)
 obtain rfl := sI h23
 exact re [.bool p21]

theorem c_impl_NodeOk {W : World} {x0 : Node} {x1 : Int} {r : Bool} (h : impl_NodeOk x0 x1 = some r)  :
    Gives0 Try.prog 119 #[vNode x0, .int .i64 x1] W (.bool r) := by
 unfold impl_NodeOk at h
 refine en Try.func119 Try.ntmps119 ?_
 refine qs (qr (oB 2 [(2, .p 0 0)] [1] [(68, (eNode x0))] ?_))
 refine oe (nt (qs (qr (oB 5 [(5, .p 1 0)] [2, 1] [(68, (eNode x0)), (68, (eNode (Node.mk x0.Kind 0 0 0 (Frac.mk 0 0))))] ?_))))
 refine oe (nt (qs (qb (qs (qr (oN 4 [(9, vb (x0.Kind == 1))] [5, 2, 1] ?_))))))
 refine oe (nt (cC h (fun h52 => ?_) (fun h53 => ?_)))
 · refine qs (qr (oB 4 [] [5, 2] [(68, (eNode x0)), (68, (eNode (Node.mk x0.Kind 0 0 0 x0.Value)))] ?_))
   refine oe (nt (qs ?_))
   obtain ⟨p54, hE55, h56⟩ := bS h52
   refine JC_cut (τ := Unit) (fun _ => [(4, vb p54)]) (fun _ => [(68, (eNode x0)), (68, (eNode (Node.mk x0.Kind 0 0 0 x0.Value)))]) (fun _ => []) ?_ (fun _ => ?_)
   · refine qr (oN 4 [(19, vb ((x0.Kind == x0.Kind) && ((x0.A == 0) && ((x0.B == 0) && ((x0.C == 0) && (((x0.Value.Num == x0.Value.Num) && ((x0.Value.Den == x0.Value.Den) && true)) && true))))))] [2] ?_)
     refine oS 19 hE55 (fun h58 => ?_) (fun h59 => ?_)
     · refine oN 2 [(21, .v (vFrac x0.Value))] [19] ?_
       obtain ⟨t60, h61, h62⟩ := bS h58
       refine k0 (fun γ w hs => c_impl_FracOk h61) ?_
       refine oN 2 [(4, vb t60)] [] ?_
       refine oe ?_
       obtain rfl := sI h62
       exact mt () [4] [] 2
     refine oN 5 [(4, vb false)] [] ?_
     refine oe ?_
     obtain rfl := sI h59
     exact mt () [4] [] 2
   refine nt (qe (br (nr ?_)))
   obtain rfl := sI h56
   exact re [.bool p54]
 refine qs (qr (oN 4 [(24, vb (x0.Kind == 2))] [5, 2, 1] ?_))
 refine oe (nt (cC h53 (fun h82 => ?_) (fun h83 => ?_)))
 · refine qs (qr (oB 4 [] [5, 2] [(68, (eNode x0)), (68, (eNode (Node.mk x0.Kind x0.A 0 0 (Frac.mk 0 0))))] ?_))
   refine oe (nt (qs ?_))
   obtain ⟨p84, hE85, h86⟩ := bS h82
   refine JC_cut (τ := Unit) (fun _ => [(4, vb p84)]) (fun _ => [(68, (eNode x0)), (68, (eNode (Node.mk x0.Kind x0.A 0 0 (Frac.mk 0 0))))]) (fun _ => []) ?_ (fun _ => ?_)
   · refine qr (oN 4 [(34, vb ((x0.Kind == x0.Kind) && ((x0.A == x0.A) && ((x0.B == 0) && ((x0.C == 0) && (((x0.Value.Num == 0) && ((x0.Value.Den == 0) && true)) && true))))))] [2] ?_)
     refine oS 34 hE85 (fun h88 => ?_) (fun h89 => ?_)
     · refine oN 2 [(36, vi x0.A)] [34] ?_
       obtain ⟨t90, h91, h92⟩ := bS h88
       refine k0 (fun γ w hs => c_impl_within h91) ?_
       refine oN 2 [(4, vb t90)] [] ?_
       refine oe ?_
       obtain rfl := sI h92
       exact mt () [4] [] 2
     refine oN 5 [(4, vb false)] [] ?_
     refine oe ?_
     obtain rfl := sI h89
     exact mt () [4] [] 2
   refine nt (qe (br (nr ?_)))
   obtain rfl := sI h86
   exact re [.bool p84]
 refine qs (qr (oN 2 [(41, vi x0.Kind)] [5, 2, 1] ?_))
 obtain ⟨t94, h95, h96⟩ := bS h83
 refine k0 (fun γ w hs => c_impl_within h95) ?_
 refine oN 2 [(39, vb (!t94))] [5, 2, 1] ?_
 refine oe (nt (cC h96 (fun h99 => ?_) (fun h100 => ?_)))
 · refine qs (qr (oN 1 [(4, vb false)] [] ?_))
   refine oe (nt (qe (br (nr ?_))))
   obtain rfl := sI h99
   exact re [.bool false]
 refine qk (bn (nt (qs (JC_cut (τ := Unit) (fun _ => [(5, .p 1 0), (2, .p 0 0), (1, vi x1)]) (fun _ => [(68, (eNode x0)), (68, (eNode (Node.mk x0.Kind x0.A x0.B 0 (Frac.mk 0 0))))]) (fun _ => []) ?_ (fun _ => ?_)))))
 · refine jw [5, 2, 1] [] ?_
   refine JC_heldN (ks := [0]) (Rk := []) 8 (by kernel_rfl) (by kernel_rfl) ?_
   refine htq 0 (.p 0 1) [] ?_
   refine htq 1 (vi x0.A) [] ?_
   refine hk [45, 5, 2, 1] ?_
   refine htq 2 (.p 0 2) [] ?_
   refine htq 3 (vi x0.B) [] ?_
   refine hk [47, 45, 5, 2, 1] ?_
   refine htq 4 (.p 1 1) [] ?_
   refine ha1 5 ?_
   refine hi (fun γ0 δ hm => ?_)
   refine gs [(48, .p 1 1), (47, vi x0.B), (45, vi x0.A), (5, .p 1 0), (2, .p 0 0), (1, vi x1)] [(68, (eNode x0)), (68, (eNode (Node.mk x0.Kind x0.A 0 0 (Frac.mk 0 0))))] (fun δ2 => ?_)
   refine gd hm [47, 5, 2, 1] [] ?_
   refine htq 6 (.p 1 2) [] ?_
   refine ha1 7 ?_
   refine hi (fun γ0 δ hm => ?_)
   refine gs [(49, .p 1 2), (47, vi x0.B), (5, .p 1 0), (2, .p 0 0), (1, vi x1)] [(68, (eNode x0)), (68, (eNode (Node.mk x0.Kind x0.A x0.B 0 (Frac.mk 0 0))))] (fun δ2 => ?_)
   refine gd hm [5, 2, 1] [] ?_
   exact hd () [5, 2, 1] [] 2
 refine nt (qs (qs (qr (oN 3 [(52, vb (x0.Kind == 9))] [5, 2, 1] ?_))))
 refine oe (nt ?_)
 obtain ⟨k105, hk106, h135⟩ := jS h100
 refine JC_cutP (τ := (Int) × (Unit)) (fun y => k105 y.1 = some r) (fun y104 => [(5, .p 1 0), (2, .p 0 0), (1, vi x1)]) (fun y104 => [(68, (eNode x0)), (68, (eNode (Node.mk x0.Kind x0.A x0.B y104.1 (Frac.mk 0 0))))]) (fun y104 => []) ?_ (fun y104 h107p => ?_)
 · refine cC h135 (fun h137 => ?_) (fun h138 => ?_)
   · refine qr (oB 4 [] [5, 2, 1] [(68, (eNode x0)), (68, (eNode (Node.mk x0.Kind x0.A x0.B x0.C (Frac.mk 0 0))))] ?_)
     exact oe (mp (x0.C, ()) h137 [5, 2, 1] [] 2)
   exact qk (mp (0, ()) h138 [5, 2, 1] [] 2)
 have h107 := (congrFun hk106 _).symm.trans h107p
 refine nt (qs ?_)
 obtain ⟨p108, hE109, h110⟩ := bS h107
 refine JC_cut (τ := Unit) (fun _ => [(4, vb p108)]) (fun _ => [(68, (eNode x0)), (68, (eNode (Node.mk x0.Kind x0.A x0.B y104.1 (Frac.mk 0 0))))]) (fun _ => []) ?_ (fun _ => ?_)
 · refine qr (oN 4 [(59, vb ((x0.Kind == x0.Kind) && ((x0.A == x0.A) && ((x0.B == x0.B) && ((x0.C == y104.1) && (((x0.Value.Num == 0) && ((x0.Value.Den == 0) && true)) && true))))))] [2, 1] ?_)
   refine oS 59 hE109 (fun h112 => ?_) (fun h113 => ?_)
   · refine oN 4 [(63, vb (decide (x1 > 0)))] [2, 1] ?_
     refine oS 63 h112 (fun h115 => ?_) (fun h116 => ?_)
     · refine oN 4 [(67, vi (w64 (x1 - 1))), (65, vi x0.A)] [63, 2, 1] ?_
       obtain ⟨t117, h118, h119⟩ := bS h115
       refine k0 (fun γ w hs => c_impl_within h118) ?_
       refine oN 2 [(70, vb t117)] [2, 1] ?_
       refine oS 70 h119 (fun h122 => ?_) (fun h123 => ?_)
       · refine oN 4 [(74, vi (w64 (x1 - 1))), (72, vi x0.B)] [70, 2, 1] ?_
         obtain ⟨t124, h125, h126⟩ := bS h122
         refine k0 (fun γ w hs => c_impl_within h125) ?_
         refine oN 2 [(77, vb t124)] [2, 1] ?_
         refine oS 77 h126 (fun h129 => ?_) (fun h130 => ?_)
         · refine oN 4 [(81, vi (w64 (x1 - 1))), (79, vi x0.C)] [77] ?_
           obtain ⟨t131, h132, h133⟩ := bS h129
           refine k0 (fun γ w hs => c_impl_within h132) ?_
           refine oN 2 [(4, vb t131)] [] ?_
           refine oe ?_
           obtain rfl := sI h133
           exact mt () [4] [] 2
         refine oN 7 [(4, vb false)] [] ?_
         refine oe ?_
         obtain rfl := sI h130
         exact mt () [4] [] 2
       refine oN 14 [(4, vb false)] [] ?_
       refine oe ?_
       obtain rfl := sI h123
       exact mt () [4] [] 2
     refine oN 21 [(4, vb false)] [] ?_
     refine oe ?_
     obtain rfl := sI h116
     exact mt () [4] [] 2
   refine oN 25 [(4, vb false)] [] ?_
   refine oe ?_
   obtain rfl := sI h113
   exact mt () [4] [] 2
 refine nt (qe ?_)
 obtain rfl := sI h110
 exact re [.bool p108]

theorem c_impl_FormulaOk {W : World} {x0 : List Node} {a0_0 : Option Addr} {c0_0 : Nat} {r : Bool} (h : impl_FormulaOk x0 = some r) (hv0_0 : SlView W x0 a0_0 c0_0) :
    Gives0 Try.prog 103 #[.slice a0_0 x0.length c0_0] W (.bool r) := by
 unfold impl_FormulaOk at h
 refine en Try.func103 Try.ntmps103 ?_
 refine qs (qr (oN 1 [] [0] ?_))
 refine oe (nt (qs (qs (qr (oN 3 [(7, vi 0), (6, vi (x0.length : Int)), (5, .v (.slice a0_0 x0.length c0_0))] [0] ?_)))))
 refine oe (nt ?_)
 obtain ⟨r24, hL25, h26⟩ := bS h
 obtain ⟨k27, hk28, h26⟩ := brkS h26
 refine JC_cutP (τ := (Unit) × (Unit)) (fun y => k27 y.1 = some r) (fun y32 => [(0, .v (.slice a0_0 x0.length c0_0))]) (fun y32 => []) (fun y32 => []) ?_ (fun y32 h33p => ?_)
 · refine qb (lp Unit hL25 (fun s21 y22 => [(7, vi s21), (6, vi (x0.length : Int)), (5, .v (.slice a0_0 x0.length c0_0)), (0, .v (.slice a0_0 x0.length c0_0))]) (fun s21 y22 => []) (fun s21 y22 => []) () [7, 6, 5, 0] [] 0 (fun s21 y22 t23 h29 hd30 => ?_))
   refine qs (qr (oN 1 [(8, vb (decide (s21 < (x0.length : Int))))] [7, 6, 5, 0] ?_))
   refine oe (nt (qs (cC h29 (fun h39 => ?_) (fun h40 => ?_))))
   · refine qk (nt (qs (qb (qs (qr (oN 1 [(9, vi s21)] [7, 6, 5, 0] ?_))))))
     obtain ⟨x41, hx42, h43⟩ := bS h39
     refine oi 6 (fun γ w hs => (hv0_0.kept hs.kept)) hx42 ?_
     refine ol 68 0 (vNode x41) (fun γ w hs => (hv0_0.kept hs.kept).flatq hx42) ?_
     refine oB 3 [(3, vi s21), (4, .p 0 0)] [7, 6, 5, 0] [(68, (eNode x41))] ?_
     refine oe (nt (qs (qr (oN 2 [(13, vi s21), (12, .v (vNode x41))] [7, 6, 5, 0] ?_))))
     obtain ⟨t44, h45, h46⟩ := bS h43
     refine k0 (fun γ w hs => c_impl_NodeOk h45) ?_
     refine oN 1 [(15, vb (!t44))] [7, 6, 5, 0] ?_
     refine oe (nt (cC h46 (fun h49 => ?_) (fun h50 => ?_)))
     · refine qs (qr (oN 1 [(2, vb false)] [] ?_))
       refine oe (nt (qe (br (nr (nr ?_)))))
       have h51 := leafR hd30 h49 h26
       refine br (nr (nr ?_))
       obtain rfl := sI h51
       exact re [.bool false]
     refine qk (bn (nt (qr (oN 2 [(7, vi (w64 (s21 + 1)))] [6, 5, 0] ?_))))
     exact oe (ct h50 () [7, 6, 5, 0] [] 0)
   refine qx (nx (nx (bh ?_)))
   have h52 := leafB hd30 h40 h26
   exact mp ((), ()) h52 [0] [] 0
 have h33 := (congrFun hk28 _).symm.trans h33p
 refine nt (qs (qr (oN 2 [(18, vi (x0.length : Int))] [] ?_)))
 obtain ⟨t34, h35, h36⟩ := bS h33
 refine k0 (fun γ w hs => c_impl_within h35) ?_
 refine oN 1 [(2, vb t34)] [] ?_
 refine oe (nt (qe ?_))
 obtain rfl := sI h36
 exact re [.bool t34]

theorem c_impl_RuleOk {W : World} {x0 : Rule} {a0_0 : Option Addr} {c0_0 : Nat} {r : Bool} (h : impl_RuleOk x0 = some r) (hv0_0 : SlView W x0.Nodes a0_0 c0_0) :
    Gives0 Try.prog 71 #[vRule x0 (a0_0, c0_0)] W (.bool r) := by
 unfold impl_RuleOk at h
 refine en Try.func71 Try.ntmps71 ?_
 refine qs (qr (oB 2 [(1, .p 0 0)] [] [(48, (eRule x0 (a0_0, c0_0)))] ?_))
 refine oe (nt (qs ?_))
 obtain ⟨p21, hE22, h23⟩ := bS h
 refine JC_cut (τ := Unit) (fun _ => [(2, vb p21)]) (fun _ => [(48, (eRule x0 (a0_0, c0_0)))]) (fun _ => []) ?_ (fun _ => ?_)
 · refine qr (oN 2 [(4, vi x0.Name)] [1] ?_)
   obtain ⟨t24, h25, h26⟩ := bS hE22
   refine k0 (fun γ w hs => c_impl_within h25) ?_
   refine oN 1 [(6, vb t24)] [1] ?_
   refine oS 6 h26 (fun h29 => ?_) (fun h30 => ?_)
   · refine oN 4 [(10, vi x0.To), (8, vi x0.From)] [6, 1] ?_
     obtain ⟨t31, h32, h33⟩ := bS h29
     refine k0 (fun γ w hs => c_impl_isSpan h32) ?_
     refine oN 2 [(13, vb t31)] [1] ?_
     refine oS 13 h33 (fun h36 => ?_) (fun h37 => ?_)
     · refine oN 2 [(15, vi x0.Joined)] [13, 1] ?_
       obtain ⟨t38, h39, h40⟩ := bS h36
       refine k0 (fun γ w hs => c_impl_within h39) ?_
       refine oN 2 [(18, vb t38)] [1] ?_
       refine oS 18 h40 (fun h43 => ?_) (fun h44 => ?_)
       · refine oN 2 [(20, vi x0.Rank)] [18, 1] ?_
         obtain ⟨t45, h46, h47⟩ := bS h43
         refine k0 (fun γ w hs => c_impl_within h46) ?_
         refine oN 2 [(23, vb t45)] [1] ?_
         refine oS 23 h47 (fun h50 => ?_) (fun h51 => ?_)
         · refine oN 2 [(25, vi x0.Mode)] [23, 1] ?_
           obtain ⟨t52, h53, h54⟩ := bS h50
           refine k0 (fun γ w hs => c_impl_within h53) ?_
           refine oN 2 [(28, vb t52)] [1] ?_
           refine oS 28 h54 (fun h57 => ?_) (fun h58 => ?_)
           · refine oN 2 [(30, .v (.slice a0_0 x0.Nodes.length c0_0))] [28] ?_
             obtain ⟨t59, h60, h61⟩ := bS h57
             refine k0 (fun γ w hs => c_impl_FormulaOk h60 (hv0_0.kept hs.kept)) ?_
             refine oN 2 [(2, vb t59)] [] ?_
             refine oe ?_
             obtain rfl := sI h61
             exact mt () [2] [] 1
           refine oN 5 [(2, vb false)] [] ?_
           refine oe ?_
           obtain rfl := sI h58
           exact mt () [2] [] 1
         refine oN 10 [(2, vb false)] [] ?_
         refine oe ?_
         obtain rfl := sI h51
         exact mt () [2] [] 1
       refine oN 15 [(2, vb false)] [] ?_
       refine oe ?_
       obtain rfl := sI h44
       exact mt () [2] [] 1
     refine oN 20 [(2, vb false)] [] ?_
     refine oe ?_
     obtain rfl := sI h37
     exact mt () [2] [] 1
   refine oN 27 [(2, vb false)] [] ?_
   refine oe ?_
   obtain rfl := sI h30
   exact mt () [2] [] 1
 refine nt (qe ?_)
 obtain rfl := sI h23
 exact re [.bool p21]

theorem c_impl_BookOk {W : World} {x0 : Book} {a0_0 : Option Addr} {c0_0 : Nat} {r : Bool} (h : impl_BookOk x0 = some r) (hv0_0 : SlView W x0.Rules a0_0 c0_0) :
    Gives0 Try.prog 35 #[vBook x0 (a0_0, c0_0)] W (.bool r) := by
 unfold impl_BookOk at h
 refine en Try.func35 Try.ntmps35 ?_
 refine qs (qr (oB 2 [(1, .p 0 0)] [] [(26, (eBook x0 (a0_0, c0_0)))] ?_))
 refine oe (nt (qs (qs (qr (oN 4 [(10, vi 0), (9, vi (x0.Rules.length : Int)), (8, .v (.slice a0_0 x0.Rules.length c0_0))] [1] ?_)))))
 refine oe (nt ?_)
 obtain ⟨r24, hL25, h26⟩ := bS h
 obtain ⟨k27, hk28, h26⟩ := brkS h26
 refine JC_cutP (τ := (Unit) × (Unit)) (fun y => k27 y.1 = some r) (fun y32 => [(1, .p 0 0)]) (fun y32 => [(26, (eBook x0 (a0_0, c0_0)))]) (fun y32 => []) ?_ (fun y32 h33p => ?_)
 · refine qb (lp Unit hL25 (fun s21 y22 => [(10, vi s21.1), (9, vi s21.2), (8, .v (.slice a0_0 x0.Rules.length c0_0)), (1, .p 0 0)]) (fun s21 y22 => [(26, (eBook x0 (a0_0, c0_0)))]) (fun s21 y22 => []) () [10, 9, 8, 1] [] 1 (fun s21 y22 t23 h29 hd30 => ?_))
   refine qs (qr (oN 1 [(11, vb (decide (s21.1 < s21.2)))] [10, 9, 8, 1] ?_))
   refine oe (nt (qs (cC h29 (fun h35 => ?_) (fun h36 => ?_))))
   · refine qk (nt (qs (qb (qs (qr (oN 1 [(12, vi s21.1)] [10, 9, 8, 1] ?_))))))
     obtain ⟨x37, hx38, h39⟩ := bS h35
     refine oi 7 (fun γ w hs => (hv0_0.kept hs.kept)) hx38 ?_
     obtain ⟨_, ⟨a40, c41, rfl, hv42⟩, hc43⟩ := SlView.at hv0_0 (idx_some hx38).2.2
     refine ol 48 0 (vRule x37 (a40, c41)) (fun γ w hs => ⟨(hv0_0.kept hs.kept).ne (idx_some hx38).2.2, hc43.kept hs.kept⟩) ?_
     refine oB 3 [(3, vi s21.1), (4, .p 1 0)] [10, 9, 8, 1] [(26, (eBook x0 (a0_0, c0_0))), (48, (eRule x37 (a40, c41)))] ?_
     refine oe (nt (qs (qs (qr (oN 1 [(15, .v (vRule x37 (a40, c41)))] [3, 4, 10, 9, 8, 1] ?_)))))
     obtain ⟨t44, h45, h46⟩ := bS h39
     refine k0 (fun γ w hs => c_impl_RuleOk h45 (hv42.kept hs.kept)) ?_
     refine oN 1 [(17, vb (!t44))] [3, 4, 10, 9, 8, 1] ?_
     refine oe (nt (cC h46 (fun h49 => ?_) (fun h50 => ?_)))
     · refine qs (qr (oN 1 [(2, vb false)] [] ?_))
       refine oe (nt (qe (nr (br (nr (nr ?_))))))
       have h51 := leafR hd30 h49 h26
       refine br (nr (nr ?_))
       obtain rfl := sI h51
       exact re [.bool false]
     refine qk (nt (qs (qr (oN 3 [(20, vi s21.1), (19, .v (.slice a0_0 x0.Rules.length c0_0))] [4, 10, 9, 8, 1] ?_))))
     obtain ⟨l52, hm53, h54⟩ := bS h50
     have hv55 := SlView.head hv0_0 hm53
     refine JO_head (α := Rule) rfl (by kernel_rfl) (a0 := a0_0) (n0 := x0.Rules.length) (c0 := c0_0) (hi := s21.1) (by kernel_rfl) hm53 (hv0_0).fit rfl ?_
     refine oN 2 [(23, vi 0), (22, vi (l52.length : Int))] [21, 4, 10, 9, 8, 1] ?_
     refine oe (nt ?_)
     obtain ⟨r59, hL60, h61⟩ := bS h54
     obtain ⟨k62, hk63, h61⟩ := brkS h61
     refine JC_cutP (τ := (Int × Int × Int × Int × Int × Int × Int × Int) × (Unit)) (fun y => k62 y.1 = some t23) (fun y67 => [(10, vi y67.1.1), (9, vi y67.1.2.1), (8, .v (.slice a0_0 x0.Rules.length c0_0)), (1, .p 0 0)]) (fun y67 => [(26, (eBook x0 (a0_0, c0_0))), (48, (eRule (Rule.mk y67.1.2.2.1 y67.1.2.2.2.1 y67.1.2.2.2.2.1 y67.1.2.2.2.2.2.1 y67.1.2.2.2.2.2.2.1 y67.1.2.2.2.2.2.2.2 x37.Nodes) (a40, c41)))]) (fun y67 => []) ?_ (fun y67 h68p => ?_)
     · refine qb (lp Unit hL60 (fun s56 y57 => [(23, vi s56), (22, vi (l52.length : Int)), (21, .v (.slice a0_0 l52.length c0_0)), (4, .p 1 0), (10, vi s21.1), (9, vi s21.2), (8, .v (.slice a0_0 x0.Rules.length c0_0)), (1, .p 0 0)]) (fun s56 y57 => [(26, (eBook x0 (a0_0, c0_0))), (48, (eRule x37 (a40, c41)))]) (fun s56 y57 => []) () [23, 22, 21, 4, 10, 9, 8, 1] [] 2 (fun s56 y57 t58 h64 hd65 => ?_))
       refine qs (qr (oN 1 [(24, vb (decide (s56 < (l52.length : Int))))] [23, 22, 21, 4, 10, 9, 8, 1] ?_))
       refine oe (nt (qs (cC h64 (fun h70 => ?_) (fun h71 => ?_))))
       · refine qk (nt (qs (qb (qs (qr ?_)))))
         obtain ⟨x72, hx73, h74⟩ := bS h70
         refine oi 7 (fun γ w hs => (hv55.kept hs.kept)) hx73 ?_
         obtain ⟨_, ⟨a75, c76, rfl, hv77⟩, hc78⟩ := SlView.at hv55 (idx_some hx73).2.2
         refine ol 48 0 (vRule x72 (a75, c76)) (fun γ w hs => ⟨(hv55.kept hs.kept).ne (idx_some hx73).2.2, hc78.kept hs.kept⟩) ?_
         refine oB 2 [(6, .p 2 0)] [23, 22, 21, 4, 10, 9, 8, 1] [(26, (eBook x0 (a0_0, c0_0))), (48, (eRule x37 (a40, c41))), (48, (eRule x72 (a75, c76)))] ?_
         refine oe (nt (qs ?_))
         obtain ⟨p79, hE80, h81⟩ := bS h74
         refine JC_cut (τ := Unit) (fun _ => [(1, .p 0 0), (4, .p 1 0), (8, .v (.slice a0_0 x0.Rules.length c0_0)), (9, vi s21.2), (10, vi s21.1), (21, .v (.slice a0_0 l52.length c0_0)), (22, vi (l52.length : Int)), (23, vi s56), (52, vb p79)]) (fun _ => [(26, (eBook x0 (a0_0, c0_0))), (48, (eRule x37 (a40, c41))), (48, (eRule x72 (a75, c76)))]) (fun _ => []) ?_ (fun _ => ?_)
         · refine qr (oN 6 [(32, vb (x72.Name == x37.Name))] [6, 23, 22, 21, 4, 10, 9, 8, 1] ?_)
           refine oS 32 hE80 (fun h83 => ?_) (fun h84 => ?_)
           · refine oN 7 [(39, vb (x72.Rank == x37.Rank))] [6, 23, 22, 21, 4, 10, 9, 8, 1] ?_
             refine oS 39 h83 (fun h86 => ?_) (fun h87 => ?_)
             · refine oN 7 [(46, vb (decide (x72.From < x37.To)))] [6, 23, 22, 21, 4, 10, 9, 8, 1] ?_
               refine oS 46 h86 (fun h89 => ?_) (fun h90 => ?_)
               · refine oN 6 [(52, vb (decide (x37.From < x72.To)))] [23, 22, 21, 4, 10, 9, 8, 1] ?_
                 refine oe ?_
                 obtain rfl := sI h89
                 exact mt () [1, 4, 8, 9, 10, 21, 22, 23, 52] [] 3
               refine oN 6 [(52, vb false)] [23, 22, 21, 4, 10, 9, 8, 1] ?_
               refine oe ?_
               obtain rfl := sI h90
               exact mt () [1, 4, 8, 9, 10, 21, 22, 23, 52] [] 3
             refine oN 13 [(52, vb false)] [23, 22, 21, 4, 10, 9, 8, 1] ?_
             refine oe ?_
             obtain rfl := sI h87
             exact mt () [1, 4, 8, 9, 10, 21, 22, 23, 52] [] 3
           refine oN 20 [(52, vb false)] [23, 22, 21, 4, 10, 9, 8, 1] ?_
           refine oe ?_
           obtain rfl := sI h84
           exact mt () [1, 4, 8, 9, 10, 21, 22, 23, 52] [] 3
         refine nt (cC h81 (fun h92 => ?_) (fun h93 => ?_))
         · refine qs (qr (oN 1 [(2, vb false)] [] ?_))
           refine oe (nt (qe (br (nr (nr ?_)))))
           have h94 := leafR hd65 h92 h61
           refine br (nr (br (nr (nr ?_))))
           have h95 := leafR hd30 h94 h26
           refine br (nr (nr ?_))
           obtain rfl := sI h95
           exact re [.bool false]
         refine qk (bn (nt (qr (oN 2 [(23, vi (w64 (s56 + 1)))] [1, 4, 8, 9, 10, 21, 22] ?_))))
         exact oe (ct h93 () [23, 22, 21, 4, 10, 9, 8, 1] [] 2)
       refine qx (nx (nx (bh ?_)))
       have h96 := leafB hd65 h71 h61
       exact mp ((s21.1, s21.2, x37.Name, x37.From, x37.To, x37.Joined, x37.Rank, x37.Mode), ()) h96 [10, 9, 8, 1] [] 2
     have h68 := (congrFun hk63 _).symm.trans h68p
     refine bn (nt (qr (oN 2 [(10, vi (w64 (y67.1.1 + 1)))] [9, 8, 1] ?_)))
     exact oe (ct h68 () [10, 9, 8, 1] [] 1)
   refine qx (nx (nx (bh ?_)))
   have h97 := leafB hd30 h36 h26
   exact mp ((), ()) h97 [1] [] 1
 have h33 := (congrFun hk28 _).symm.trans h33p
 refine nt (qs (qr (oN 5 [(2, vb (decide ((x0.Rules.length : Int) ≤ 20)))] [] ?_)))
 refine oe (nt (qe ?_))
 obtain rfl := sI h33
 exact re [.bool (decide ((x0.Rules.length : Int) ≤ 20))]

theorem c_impl_FactOk {W : World} {x0 : Fact} {r : Bool} (h : impl_FactOk x0 = some r)  :
    Gives0 Try.prog 72 #[vFact x0] W (.bool r) := by
 unfold impl_FactOk at h
 refine en Try.func72 Try.ntmps72 ?_
 refine qs (qr (oB 2 [(1, .p 0 0)] [] [(79, (eFact x0))] ?_))
 refine oe (nt (qs ?_))
 obtain ⟨p21, hE22, h23⟩ := bS h
 refine JC_cut (τ := Unit) (fun _ => [(2, vb p21)]) (fun _ => [(79, (eFact x0))]) (fun _ => []) ?_ (fun _ => ?_)
 · refine qr (oN 2 [(4, vi x0.Key)] [1] ?_)
   obtain ⟨t24, h25, h26⟩ := bS hE22
   refine k0 (fun γ w hs => c_impl_within h25) ?_
   refine oN 1 [(6, vb t24)] [1] ?_
   refine oS 6 h26 (fun h29 => ?_) (fun h30 => ?_)
   · refine oN 4 [(10, vi x0.To), (8, vi x0.From)] [6, 1] ?_
     obtain ⟨t31, h32, h33⟩ := bS h29
     refine k0 (fun γ w hs => c_impl_isSpan h32) ?_
     refine oN 2 [(13, vb t31)] [1] ?_
     refine oS 13 h33 (fun h36 => ?_) (fun h37 => ?_)
     · refine oN 2 [(15, vi x0.Known)] [13, 1] ?_
       obtain ⟨t38, h39, h40⟩ := bS h36
       refine k0 (fun γ w hs => c_impl_MonthOk h39) ?_
       refine oN 2 [(18, vb t38)] [1] ?_
       refine oS 18 h40 (fun h43 => ?_) (fun h44 => ?_)
       · refine oN 2 [(20, vi x0.Value)] [18] ?_
         obtain ⟨t45, h46, h47⟩ := bS h43
         refine k0 (fun γ w hs => c_impl_within h46) ?_
         refine oN 2 [(2, vb t45)] [] ?_
         refine oe ?_
         obtain rfl := sI h47
         exact mt () [2] [] 1
       refine oN 5 [(2, vb false)] [] ?_
       refine oe ?_
       obtain rfl := sI h44
       exact mt () [2] [] 1
     refine oN 10 [(2, vb false)] [] ?_
     refine oe ?_
     obtain rfl := sI h37
     exact mt () [2] [] 1
   refine oN 17 [(2, vb false)] [] ?_
   refine oe ?_
   obtain rfl := sI h30
   exact mt () [2] [] 1
 refine nt (qe ?_)
 obtain rfl := sI h23
 exact re [.bool p21]

theorem c_impl_StoreOk {W : World} {x0 : Store} {a0_0 : Option Addr} {c0_0 : Nat} {r : Bool} (h : impl_StoreOk x0 = some r) (hv0_0 : SlView W x0.Facts a0_0 c0_0) :
    Gives0 Try.prog 36 #[vStore x0 (a0_0, c0_0)] W (.bool r) := by
 unfold impl_StoreOk at h
 refine en Try.func36 Try.ntmps36 ?_
 refine qs (qr (oB 2 [(1, .p 0 0)] [] [(29, (eStore x0 (a0_0, c0_0)))] ?_))
 refine oe (nt (qs (qs (qr (oN 4 [(8, vi 0), (7, vi (x0.Facts.length : Int)), (6, .v (.slice a0_0 x0.Facts.length c0_0))] [1] ?_)))))
 refine oe (nt ?_)
 obtain ⟨r24, hL25, h26⟩ := bS h
 obtain ⟨k27, hk28, h26⟩ := brkS h26
 refine JC_cutP (τ := (Unit) × (Unit)) (fun y => k27 y.1 = some r) (fun y32 => [(1, .p 0 0)]) (fun y32 => [(29, (eStore x0 (a0_0, c0_0)))]) (fun y32 => []) ?_ (fun y32 h33p => ?_)
 · refine qb (lp Unit hL25 (fun s21 y22 => [(8, vi s21), (7, vi (x0.Facts.length : Int)), (6, .v (.slice a0_0 x0.Facts.length c0_0)), (1, .p 0 0)]) (fun s21 y22 => [(29, (eStore x0 (a0_0, c0_0)))]) (fun s21 y22 => []) () [8, 7, 6, 1] [] 1 (fun s21 y22 t23 h29 hd30 => ?_))
   refine qs (qr (oN 1 [(9, vb (decide (s21 < (x0.Facts.length : Int))))] [8, 7, 6, 1] ?_))
   refine oe (nt (qs (cC h29 (fun h35 => ?_) (fun h36 => ?_))))
   · refine qk (nt (qs (qb (qs (qr (oN 1 [(10, vi s21)] [8, 7, 6, 1] ?_))))))
     obtain ⟨x37, hx38, h39⟩ := bS h35
     refine oi 5 (fun γ w hs => (hv0_0.kept hs.kept)) hx38 ?_
     refine ol 79 0 (vFact x37) (fun γ w hs => (hv0_0.kept hs.kept).flatq hx38) ?_
     refine oB 3 [(3, vi s21), (4, .p 1 0)] [8, 7, 6, 1] [(29, (eStore x0 (a0_0, c0_0))), (79, (eFact x37))] ?_
     refine oe (nt (qs ?_))
     obtain ⟨p40, hE41, h42⟩ := bS h39
     refine JC_cut (τ := Unit) (fun _ => [(1, .p 0 0), (6, .v (.slice a0_0 x0.Facts.length c0_0)), (7, vi (x0.Facts.length : Int)), (8, vi s21), (31, vb p40)]) (fun _ => [(29, (eStore x0 (a0_0, c0_0))), (79, (eFact x37))]) (fun _ => []) ?_ (fun _ => ?_)
     · refine JC_quiet (by kernel_rfl) (by kernel_rfl) ?_
       refine qN 1 [(13, .v (vFact x37))] [3, 4, 8, 7, 6, 1] ?_
       obtain ⟨t43, h44, h45⟩ := bS hE41
       refine q0 (fun γ w hs => c_impl_FactOk h44) ?_
       refine qN 2 [(16, vb (!t43))] [3, 4, 8, 7, 6, 1] ?_
       refine qS 16 h45 (fun h48 => ?_) (fun h49 => ?_)
       · refine qN 15 [(31, vb true)] [8, 7, 6, 1] ?_
         refine qz ?_
         obtain rfl := sI h48
         exact mt () [1, 6, 7, 8, 31] [] 2
       refine qN 3 [(19, vb (decide (s21 > 0)))] [16, 3, 4, 8, 7, 6, 1] ?_
       refine qS 19 h49 (fun h51 => ?_) (fun h52 => ?_)
       · refine qN 4 [(23, vi (w64 (s21 - 1))), (21, .v (.slice a0_0 x0.Facts.length c0_0))] [19, 16, 4, 8, 7, 6, 1] ?_
         obtain ⟨x53, hx54, h55⟩ := bS h51
         refine qi 5 (fun γ w hs => (hv0_0.kept hs.kept)) hx54 ?_
         refine qN 1 [(25, .q a0_0 (Int.toNat (w64 (s21 - 1)) * 5 + 3))] [19, 16, 4, 8, 7, 6, 1] ?_
         refine ql 3 3 (.int .i64 x53.Known) (fun γ w hs => (hv0_0.kept hs.kept).flatq hx54) ?_
         refine qN 5 [(31, vb (decide (x53.Known > x37.Known)))] [8, 7, 6, 1] ?_
         refine qz ?_
         obtain rfl := sI h55
         exact mt () [1, 6, 7, 8, 31] [] 2
       refine qN 12 [(31, vb false)] [8, 7, 6, 1] ?_
       refine qz ?_
       obtain rfl := sI h52
       exact mt () [1, 6, 7, 8, 31] [] 2
     refine nt (cC h42 (fun h57 => ?_) (fun h58 => ?_))
     · refine qs (qr (oN 1 [(2, vb false)] [] ?_))
       refine oe (nt (qe (br (nr (nr ?_)))))
       have h59 := leafR hd30 h57 h26
       refine br (nr (nr ?_))
       obtain rfl := sI h59
       exact re [.bool false]
     refine qk (bn (nt (qr (oN 2 [(8, vi (w64 (s21 + 1)))] [1, 6, 7] ?_))))
     exact oe (ct h58 () [8, 7, 6, 1] [] 1)
   refine qx (nx (nx (bh ?_)))
   have h60 := leafB hd30 h36 h26
   exact mp ((), ()) h60 [1] [] 1
 have h33 := (congrFun hk28 _).symm.trans h33p
 refine nt (qs (qr (oN 5 [(2, vb (decide ((x0.Facts.length : Int) ≤ 200)))] [] ?_)))
 refine oe (nt (qe ?_))
 obtain rfl := sI h33
 exact re [.bool (decide ((x0.Facts.length : Int) ≤ 200))]

theorem c_impl_SpellsOk {W : World} {x0 : List Spell} {a0_0 : Option Addr} {c0_0 : Nat} {r : Bool} (h : impl_SpellsOk x0 = some r) (hv0_0 : SlView W x0 a0_0 c0_0) :
    Gives0 Try.prog 73 #[.slice a0_0 x0.length c0_0] W (.bool r) := by
 unfold impl_SpellsOk at h
 refine en Try.func73 Try.ntmps73 ?_
 refine qs (qr (oN 1 [] [0] ?_))
 refine oe (nt (qs (qs (qr (oN 3 [(7, vi 0), (6, vi (x0.length : Int)), (5, .v (.slice a0_0 x0.length c0_0))] [0] ?_)))))
 refine oe (nt ?_)
 obtain ⟨r24, hL25, h26⟩ := bS h
 obtain ⟨k27, hk28, h26⟩ := brkS h26
 refine JC_cutP (τ := (Unit) × (Unit)) (fun y => k27 y.1 = some r) (fun y32 => [(0, .v (.slice a0_0 x0.length c0_0))]) (fun y32 => []) (fun y32 => []) ?_ (fun y32 h33p => ?_)
 · refine qb (lp Unit hL25 (fun s21 y22 => [(7, vi s21), (6, vi (x0.length : Int)), (5, .v (.slice a0_0 x0.length c0_0)), (0, .v (.slice a0_0 x0.length c0_0))]) (fun s21 y22 => []) (fun s21 y22 => []) () [7, 6, 5, 0] [] 0 (fun s21 y22 t23 h29 hd30 => ?_))
   refine qs (qr (oN 1 [(8, vb (decide (s21 < (x0.length : Int))))] [7, 6, 5, 0] ?_))
   refine oe (nt (qs (cC h29 (fun h35 => ?_) (fun h36 => ?_))))
   · refine qk (nt (qs (qb (qs (qr (oN 1 [(9, vi s21)] [7, 6, 5, 0] ?_))))))
     obtain ⟨x37, hx38, h39⟩ := bS h35
     refine oi 4 (fun γ w hs => (hv0_0.kept hs.kept)) hx38 ?_
     refine ol 94 0 (vSpell x37) (fun γ w hs => (hv0_0.kept hs.kept).flatq hx38) ?_
     refine oB 3 [(3, vi s21), (4, .p 0 0)] [7, 6, 5, 0] [(94, (eSpell x37))] ?_
     refine oe (nt (qs ?_))
     obtain ⟨p40, hE41, h42⟩ := bS h39
     refine JC_cut (τ := Unit) (fun _ => [(0, .v (.slice a0_0 x0.length c0_0)), (5, .v (.slice a0_0 x0.length c0_0)), (6, vi (x0.length : Int)), (7, vi s21), (38, vb p40)]) (fun _ => [(94, (eSpell x37))]) (fun _ => []) ?_ (fun _ => ?_)
     · refine JC_quiet (by kernel_rfl) (by kernel_rfl) ?_
       refine qN 4 [(15, vi x37.To), (13, vi x37.From)] [3, 4, 7, 6, 5, 0] ?_
       obtain ⟨t43, h44, h45⟩ := bS hE41
       refine q0 (fun γ w hs => c_impl_isSpan h44) ?_
       refine qN 2 [(18, vb (!t43))] [3, 4, 7, 6, 5, 0] ?_
       refine qS 18 h45 (fun h48 => ?_) (fun h49 => ?_)
       · refine qN 20 [(38, vb true)] [7, 6, 5, 0] ?_
         refine qz ?_
         obtain rfl := sI h48
         exact mt () [0, 5, 6, 7, 38] [] 1
       refine qN 2 [(20, vi x37.Percent)] [18, 3, 4, 7, 6, 5, 0] ?_
       obtain ⟨t50, h51, h52⟩ := bS h49
       refine q0 (fun γ w hs => c_impl_within h51) ?_
       refine qN 3 [(24, vb (!t50))] [3, 4, 7, 6, 5, 0] ?_
       refine qS 24 h52 (fun h55 => ?_) (fun h56 => ?_)
       · refine qN 14 [(38, vb true)] [7, 6, 5, 0] ?_
         refine qz ?_
         obtain rfl := sI h55
         exact mt () [0, 5, 6, 7, 38] [] 1
       refine qN 3 [(27, vb (decide (s21 > 0)))] [24, 3, 4, 7, 6, 5, 0] ?_
       refine qS 27 h56 (fun h58 => ?_) (fun h59 => ?_)
       · refine qN 5 [(32, vi (w64 (s21 - 1))), (30, .v (.slice a0_0 x0.length c0_0)), (29, vi x37.From)] [27, 24, 7, 6, 5, 0] ?_
         obtain ⟨x60, hx61, h62⟩ := bS h58
         refine qi 4 (fun γ w hs => (hv0_0.kept hs.kept)) hx61 ?_
         refine qN 1 [(34, .q a0_0 (Int.toNat (w64 (s21 - 1)) * 4 + 1))] [29, 27, 24, 7, 6, 5, 0] ?_
         refine ql 3 1 (.int .i64 x60.To) (fun γ w hs => (hv0_0.kept hs.kept).flatq hx61) ?_
         refine qN 3 [(38, vb (decide (x37.From < x60.To)))] [7, 6, 5, 0] ?_
         refine qz ?_
         obtain rfl := sI h62
         exact mt () [0, 5, 6, 7, 38] [] 1
       refine qN 11 [(38, vb false)] [7, 6, 5, 0] ?_
       refine qz ?_
       obtain rfl := sI h59
       exact mt () [0, 5, 6, 7, 38] [] 1
     refine nt (cC h42 (fun h64 => ?_) (fun h65 => ?_))
     · refine qs (qr (oN 1 [(2, vb false)] [] ?_))
       refine oe (nt (qe (br (nr (nr ?_)))))
       have h66 := leafR hd30 h64 h26
       refine br (nr (nr ?_))
       obtain rfl := sI h66
       exact re [.bool false]
     refine qk (bn (nt (qr (oN 2 [(7, vi (w64 (s21 + 1)))] [0, 5, 6] ?_))))
     exact oe (ct h65 () [7, 6, 5, 0] [] 0)
   refine qx (nx (nx (bh ?_)))
   have h67 := leafB hd30 h36 h26
   exact mp ((), ()) h67 [0] [] 0
 have h33 := (congrFun hk28 _).symm.trans h33p
 refine nt (qs (qr (oN 4 [(2, vb (decide ((x0.length : Int) ≤ 30)))] [] ?_)))
 refine oe (nt (qe ?_))
 obtain rfl := sI h33
 exact re [.bool (decide ((x0.length : Int) ≤ 30))]

theorem c_impl_StatusAfter {W : World} {x0 : Int} {x1 : Int} {r : Int × Bool} (h : impl_StatusAfter x0 x1 = some r)  :
    Gives0 Try.prog 104 #[.int .i64 x0, .int .i64 x1] W (.tuple #[.int .i64 r.1, .bool r.2]) := by
 unfold impl_StatusAfter at h
 refine en Try.func104 Try.ntmps104 ?_
 refine qs (qr (oN 2 [] [0, 1] ?_))
 refine oe (nt (qs (qb (qs ?_))))
 obtain ⟨p21, hE22, h23⟩ := bS h
 refine JC_cut (τ := Unit) (fun _ => [(0, vi x0), (1, vi x1), (6, vb p21)]) (fun _ => []) (fun _ => []) ?_ (fun _ => ?_)
 · refine qr (oN 3 [(9, vb (x1 == 1))] [0, 1] ?_)
   refine oS 9 hE22 (fun h25 => ?_) (fun h26 => ?_)
   · refine oN 3 [(12, vb (x0 == 0))] [9, 0, 1] ?_
     refine oS 12 h25 (fun h28 => ?_) (fun h29 => ?_)
     · refine oN 5 [(6, vb true)] [0, 1] ?_
       refine oe ?_
       obtain rfl := sI h28
       exact mt () [0, 1, 6] [] 0
     refine oN 5 [(6, vb (x0 == 2))] [0, 1] ?_
     refine oe ?_
     obtain rfl := sI h29
     exact mt () [0, 1, 6] [] 0
   refine oN 8 [(6, vb false)] [0, 1] ?_
   refine oe ?_
   obtain rfl := sI h26
   exact mt () [0, 1, 6] [] 0
 refine nt (cC h23 (fun h65 => ?_) (fun h66 => ?_))
 · refine qs (qr (oN 2 [(5, vb true), (4, vi 1)] [] ?_))
   refine oe (nt (qe (br (nr ?_))))
   obtain rfl := sI h65
   exact re [.int .i64 1, .bool true]
 refine qs ?_
 obtain ⟨p67, hE68, h69⟩ := bS h66
 refine JC_cut (τ := Unit) (fun _ => [(0, vi x0), (1, vi x1), (17, vb p67)]) (fun _ => []) (fun _ => []) ?_ (fun _ => ?_)
 · refine qr (oN 3 [(20, vb (x1 == 2))] [0, 1] ?_)
   refine oS 20 hE68 (fun h71 => ?_) (fun h72 => ?_)
   · refine oN 4 [(17, vb (x0 == 1))] [0, 1] ?_
     refine oe ?_
     obtain rfl := sI h71
     exact mt () [0, 1, 17] [] 0
   refine oN 4 [(17, vb false)] [0, 1] ?_
   refine oe ?_
   obtain rfl := sI h72
   exact mt () [0, 1, 17] [] 0
 refine nt (cC h69 (fun h99 => ?_) (fun h100 => ?_))
 · refine qs (qr (oN 2 [(5, vb true), (4, vi 2)] [] ?_))
   refine oe (nt (qe (br (nr ?_))))
   obtain rfl := sI h99
   exact re [.int .i64 2, .bool true]
 refine qs ?_
 obtain ⟨p101, hE102, h103⟩ := bS h100
 refine JC_cut (τ := Unit) (fun _ => [(0, vi x0), (1, vi x1), (24, vb p101)]) (fun _ => []) (fun _ => []) ?_ (fun _ => ?_)
 · refine qr (oN 3 [(27, vb (x1 == 3))] [0, 1] ?_)
   refine oS 27 hE102 (fun h105 => ?_) (fun h106 => ?_)
   · refine oN 3 [(30, vb (x0 == 1))] [27, 0, 1] ?_
     refine oS 30 h105 (fun h108 => ?_) (fun h109 => ?_)
     · refine oN 5 [(24, vb true)] [0, 1] ?_
       refine oe ?_
       obtain rfl := sI h108
       exact mt () [0, 1, 24] [] 0
     refine oN 5 [(24, vb (x0 == 2))] [0, 1] ?_
     refine oe ?_
     obtain rfl := sI h109
     exact mt () [0, 1, 24] [] 0
   refine oN 8 [(24, vb false)] [0, 1] ?_
   refine oe ?_
   obtain rfl := sI h106
   exact mt () [0, 1, 24] [] 0
 refine nt (cC h103 (fun h124 => ?_) (fun h125 => ?_))
 · refine qs (qr (oN 2 [(5, vb true), (4, vi 3)] [] ?_))
   refine oe (nt (qe (br (nr ?_))))
   obtain rfl := sI h124
   exact re [.int .i64 3, .bool true]
 refine qs ?_
 obtain ⟨p126, hE127, h128⟩ := bS h125
 refine JC_cut (τ := Unit) (fun _ => [(0, vi x0), (35, vb p126)]) (fun _ => []) (fun _ => []) ?_ (fun _ => ?_)
 · refine qr (oN 3 [(38, vb (x1 == 4))] [0] ?_)
   refine oS 38 hE127 (fun h130 => ?_) (fun h131 => ?_)
   · refine oN 1 [(39, vi x0)] [38, 0] ?_
     obtain ⟨t132, h133, h134⟩ := bS h130
     refine k0 (fun γ w hs => c_impl_within h133) ?_
     refine oN 2 [(35, vb t132)] [0] ?_
     refine oe ?_
     obtain rfl := sI h134
     exact mt () [0, 35] [] 0
   refine oN 4 [(35, vb false)] [0] ?_
   refine oe ?_
   obtain rfl := sI h131
   exact mt () [0, 35] [] 0
 refine nt (cC h128 (fun h137 => ?_) (fun h138 => ?_))
 · refine qs (qr (oN 2 [(5, vb true), (4, vi 4)] [] ?_))
   refine oe (nt (qe (br (nr ?_))))
   obtain rfl := sI h137
   exact re [.int .i64 4, .bool true]
 refine qk (bn (nt (qs (qr (oN 3 [(5, vb false), (4, vi x0)] [] ?_)))))
 refine oe (nt (qe ?_))
 obtain rfl := sI h138
 exact re [.int .i64 x0, .bool false]

theorem c_impl_EventsOk {W : World} {x0 : List Event} {a0_0 : Option Addr} {c0_0 : Nat} {r : Bool} (h : impl_EventsOk x0 = some r) (hv0_0 : SlView W x0 a0_0 c0_0) :
    Gives0 Try.prog 74 #[.slice a0_0 x0.length c0_0] W (.bool r) := by
 unfold impl_EventsOk at h
 refine en Try.func74 Try.ntmps74 ?_
 refine qs (qr (oN 1 [] [0] ?_))
 refine oe (nt (qs (qr (oN 2 [(3, vi 0)] [0] ?_))))
 refine oe (nt (qs (qs (qr (oN 3 [(9, vi 0), (8, vi (x0.length : Int)), (7, .v (.slice a0_0 x0.length c0_0))] [3, 0] ?_)))))
 refine oe (nt ?_)
 obtain ⟨r24, hL25, h26⟩ := bS h
 obtain ⟨k27, hk28, h26⟩ := brkS h26
 refine JC_cutP (τ := (Unit) × (Unit)) (fun y => k27 y.1 = some r) (fun y32 => [(0, .v (.slice a0_0 x0.length c0_0))]) (fun y32 => []) (fun y32 => []) ?_ (fun y32 h33p => ?_)
 · refine qb (lp Unit hL25 (fun s21 y22 => [(9, vi s21.1), (8, vi (x0.length : Int)), (7, .v (.slice a0_0 x0.length c0_0)), (3, vi s21.2), (0, .v (.slice a0_0 x0.length c0_0))]) (fun s21 y22 => []) (fun s21 y22 => []) () [9, 8, 7, 3, 0] [] 0 (fun s21 y22 t23 h29 hd30 => ?_))
   refine qs (qr (oN 1 [(10, vb (decide (s21.1 < (x0.length : Int))))] [9, 8, 7, 3, 0] ?_))
   refine oe (nt (qs (cC h29 (fun h35 => ?_) (fun h36 => ?_))))
   · refine qk (nt (qs (qb (qs (qr (oN 1 [(11, vi s21.1)] [9, 8, 7, 3, 0] ?_))))))
     obtain ⟨x37, hx38, h39⟩ := bS h35
     refine oi 2 (fun γ w hs => (hv0_0.kept hs.kept)) hx38 ?_
     refine ol 97 0 (vEvent x37) (fun γ w hs => (hv0_0.kept hs.kept).flatq hx38) ?_
     refine oB 3 [(5, vi s21.1), (6, .p 0 0)] [9, 8, 7, 3, 0] [(97, (eEvent x37))] ?_
     refine oe (nt (qs (qr (oN 3 [(17, vi x37.Kind), (15, vi s21.2)] [5, 6, 9, 8, 7, 0] ?_))))
     obtain ⟨t40, h41, h42⟩ := bS h39
     refine k0 (fun γ w hs => c_impl_StatusAfter h41) ?_
     refine oN 5 [(4, vb t40.2), (3, vi t40.1)] [5, 6, 9, 8, 7, 0] ?_
     refine oe (nt (qs ?_))
     obtain ⟨p44, hE45, h46⟩ := bS h42
     refine JC_cut (τ := Unit) (fun _ => [(0, .v (.slice a0_0 x0.length c0_0)), (3, vi t40.1), (7, .v (.slice a0_0 x0.length c0_0)), (8, vi (x0.length : Int)), (9, vi s21.1), (43, vb p44)]) (fun _ => [(97, (eEvent x37))]) (fun _ => []) ?_ (fun _ => ?_)
     · refine JC_quiet (by kernel_rfl) (by kernel_rfl) ?_
       refine qN 3 [(23, vb (!t40.2))] [3, 5, 6, 9, 8, 7, 0] ?_
       refine qS 23 hE45 (fun h48 => ?_) (fun h49 => ?_)
       · refine qN 20 [(43, vb true)] [3, 9, 8, 7, 0] ?_
         refine qz ?_
         obtain rfl := sI h48
         exact mt () [0, 3, 7, 8, 9, 43] [] 1
       refine qN 2 [(25, vi x37.Month)] [23, 3, 5, 6, 9, 8, 7, 0] ?_
       obtain ⟨t50, h51, h52⟩ := bS h49
       refine q0 (fun γ w hs => c_impl_MonthOk h51) ?_
       refine qN 3 [(29, vb (!t50))] [3, 5, 6, 9, 8, 7, 0] ?_
       refine qS 29 h52 (fun h55 => ?_) (fun h56 => ?_)
       · refine qN 14 [(43, vb true)] [3, 9, 8, 7, 0] ?_
         refine qz ?_
         obtain rfl := sI h55
         exact mt () [0, 3, 7, 8, 9, 43] [] 1
       refine qN 3 [(32, vb (decide (s21.1 > 0)))] [29, 3, 5, 6, 9, 8, 7, 0] ?_
       refine qS 32 h56 (fun h58 => ?_) (fun h59 => ?_)
       · refine qN 3 [(35, vi (w64 (s21.1 - 1))), (33, .v (.slice a0_0 x0.length c0_0))] [32, 29, 3, 6, 9, 8, 7, 0] ?_
         obtain ⟨x60, hx61, h62⟩ := bS h58
         refine qi 2 (fun γ w hs => (hv0_0.kept hs.kept)) hx61 ?_
         refine qN 1 [(37, .q a0_0 (Int.toNat (w64 (s21.1 - 1)) * 2 + 1))] [32, 29, 3, 6, 9, 8, 7, 0] ?_
         refine ql 3 1 (.int .i64 x60.Month) (fun γ w hs => (hv0_0.kept hs.kept).flatq hx61) ?_
         refine qN 5 [(43, vb (decide (x60.Month ≥ x37.Month)))] [3, 9, 8, 7, 0] ?_
         refine qz ?_
         obtain rfl := sI h62
         exact mt () [0, 3, 7, 8, 9, 43] [] 1
       refine qN 11 [(43, vb false)] [3, 9, 8, 7, 0] ?_
       refine qz ?_
       obtain rfl := sI h59
       exact mt () [0, 3, 7, 8, 9, 43] [] 1
     refine nt (cC h46 (fun h64 => ?_) (fun h65 => ?_))
     · refine qs (qr (oN 1 [(2, vb false)] [] ?_))
       refine oe (nt (qe (br (nr (nr ?_)))))
       have h66 := leafR hd30 h64 h26
       refine br (nr (nr ?_))
       obtain rfl := sI h66
       exact re [.bool false]
     refine qk (bn (nt (qr (oN 2 [(9, vi (w64 (s21.1 + 1)))] [0, 3, 7, 8] ?_))))
     exact oe (ct h65 () [9, 8, 7, 3, 0] [] 0)
   refine qx (nx (nx (bh ?_)))
   have h67 := leafB hd30 h36 h26
   exact mp ((), ()) h67 [0] [] 0
 have h33 := (congrFun hk28 _).symm.trans h33p
 refine nt (qs (qr (oN 4 [(2, vb (decide ((x0.length : Int) ≤ 30)))] [] ?_)))
 refine oe (nt (qe ?_))
 obtain rfl := sI h33
 exact re [.bool (decide ((x0.length : Int) ≤ 30))]

theorem c_impl_MemberOk {W : World} {x0 : Member} {b0 : AC × AC} {r : Bool} (h : impl_MemberOk x0 = some r) (hv0_0 : SlView W x0.Spells b0.1.1 b0.1.2) (hv0_1 : SlView W x0.Events b0.2.1 b0.2.2) :
    Gives0 Try.prog 37 #[vMember x0 b0] W (.bool r) := by
 unfold impl_MemberOk at h
 refine en Try.func37 Try.ntmps37 ?_
 refine qs (qr (oB 2 [(1, .p 0 0)] [] [(36, (eMember x0 b0))] ?_))
 refine oe (nt (qs ?_))
 obtain ⟨p21, hE22, h23⟩ := bS h
 refine JC_cut (τ := Unit) (fun _ => [(2, vb p21)]) (fun _ => [(36, (eMember x0 b0))]) (fun _ => []) ?_ (fun _ => ?_)
 · refine qr (oN 2 [(4, vi x0.Birth)] [1] ?_)
   obtain ⟨t24, h25, h26⟩ := bS hE22
   refine k0 (fun γ w hs => c_impl_MonthOk h25) ?_
   refine oN 1 [(6, vb t24)] [1] ?_
   refine oS 6 h26 (fun h29 => ?_) (fun h30 => ?_)
   · refine oN 2 [(8, vi x0.Joined)] [6, 1] ?_
     obtain ⟨t31, h32, h33⟩ := bS h29
     refine k0 (fun γ w hs => c_impl_MonthOk h32) ?_
     refine oN 2 [(11, vb t31)] [1] ?_
     refine oS 11 h33 (fun h36 => ?_) (fun h37 => ?_)
     · refine oN 7 [(18, vb (decide (x0.Birth ≤ x0.Joined)))] [1] ?_
       refine oS 18 h36 (fun h39 => ?_) (fun h40 => ?_)
       · refine oN 2 [(20, .v (.slice b0.1.1 x0.Spells.length b0.1.2))] [18, 1] ?_
         obtain ⟨t41, h42, h43⟩ := bS h39
         refine k0 (fun γ w hs => c_impl_SpellsOk h42 (hv0_0.kept hs.kept)) ?_
         refine oN 2 [(23, vb t41)] [1] ?_
         refine oS 23 h43 (fun h46 => ?_) (fun h47 => ?_)
         · refine oN 2 [(25, .v (.slice b0.2.1 x0.Events.length b0.2.2))] [23] ?_
           obtain ⟨t48, h49, h50⟩ := bS h46
           refine k0 (fun γ w hs => c_impl_EventsOk h49 (hv0_1.kept hs.kept)) ?_
           refine oN 2 [(2, vb t48)] [] ?_
           refine oe ?_
           obtain rfl := sI h50
           exact mt () [2] [] 1
         refine oN 5 [(2, vb false)] [] ?_
         refine oe ?_
         obtain rfl := sI h47
         exact mt () [2] [] 1
       refine oN 10 [(2, vb false)] [] ?_
       refine oe ?_
       obtain rfl := sI h40
       exact mt () [2] [] 1
     refine oN 17 [(2, vb false)] [] ?_
     refine oe ?_
     obtain rfl := sI h37
     exact mt () [2] [] 1
   refine oN 22 [(2, vb false)] [] ?_
   refine oe ?_
   obtain rfl := sI h30
   exact mt () [2] [] 1
 refine nt (qe ?_)
 obtain rfl := sI h23
 exact re [.bool p21]

theorem c_impl_CaseOk {W : World} {x0 : Case} {b0 : AC × AC × AC × AC × AC} {r : Bool} (h : impl_CaseOk x0 = some r) (hv0_0 : SlView W x0.Book.Rules b0.1.1 b0.1.2) (hv0_1 : SlView W x0.Store.Facts b0.2.1.1 b0.2.1.2) (hv0_2 : SlView W x0.Series.Points b0.2.2.1.1 b0.2.2.1.2) (hv0_3 : SlView W x0.Member.Spells b0.2.2.2.1.1 b0.2.2.2.1.2) (hv0_4 : SlView W x0.Member.Events b0.2.2.2.2.1 b0.2.2.2.2.2) :
    Gives0 Try.prog 17 #[vCase x0 b0] W (.bool r) := by
 unfold impl_CaseOk at h
 refine en Try.func17 Try.ntmps17 ?_
 refine qs (qr (oB 2 [(1, .p 0 0)] [] [(38, (eCase x0 b0))] ?_))
 refine oe (nt (qs ?_))
 obtain ⟨p21, hE22, h23⟩ := bS h
 refine JC_cut (τ := Unit) (fun _ => [(2, vb p21)]) (fun _ => [(38, (eCase x0 b0))]) (fun _ => []) ?_ (fun _ => ?_)
 · refine qr (oN 2 [(4, .v (vBook x0.Book b0.1))] [1] ?_)
   obtain ⟨t24, h25, h26⟩ := bS hE22
   refine k0 (fun γ w hs => c_impl_BookOk h25 (hv0_0.kept hs.kept)) ?_
   refine oN 1 [(6, vb t24)] [1] ?_
   refine oS 6 h26 (fun h29 => ?_) (fun h30 => ?_)
   · refine oN 2 [(8, .v (vStore x0.Store b0.2.1))] [6, 1] ?_
     obtain ⟨t31, h32, h33⟩ := bS h29
     refine k0 (fun γ w hs => c_impl_StoreOk h32 (hv0_1.kept hs.kept)) ?_
     refine oN 2 [(11, vb t31)] [1] ?_
     refine oS 11 h33 (fun h36 => ?_) (fun h37 => ?_)
     · refine oN 2 [(13, .v (vSeries x0.Series b0.2.2.1))] [11, 1] ?_
       obtain ⟨t38, h39, h40⟩ := bS h36
       refine k0 (fun γ w hs => c_impl_SeriesOk h39 (hv0_2.kept hs.kept)) ?_
       refine oN 2 [(16, vb t38)] [1] ?_
       refine oS 16 h40 (fun h43 => ?_) (fun h44 => ?_)
       · refine oN 2 [(18, .v (vMember x0.Member b0.2.2.2))] [16] ?_
         obtain ⟨t45, h46, h47⟩ := bS h43
         refine k0 (fun γ w hs => c_impl_MemberOk (b0 := b0.2.2.2) h46 (hv0_3.kept hs.kept) (hv0_4.kept hs.kept)) ?_
         refine oN 2 [(2, vb t45)] [] ?_
         refine oe ?_
         obtain rfl := sI h47
         exact mt () [2] [] 1
       refine oN 5 [(2, vb false)] [] ?_
       refine oe ?_
       obtain rfl := sI h44
       exact mt () [2] [] 1
     refine oN 10 [(2, vb false)] [] ?_
     refine oe ?_
     obtain rfl := sI h37
     exact mt () [2] [] 1
   refine oN 15 [(2, vb false)] [] ?_
   refine oe ?_
   obtain rfl := sI h30
   exact mt () [2] [] 1
 refine nt (qe ?_)
 obtain rfl := sI h23
 exact re [.bool p21]

theorem c_laws_FnAsOf {W : World} {x0 : List U8} {a0_0 : Option Addr} {c0_0 : Nat} {r : Bool} (h : laws_FnAsOf x0 = some r) (hv0_0 : SlView W x0 a0_0 c0_0) :
    Gives0 Try.prog 4 #[.slice a0_0 x0.length c0_0] W (.bool r) := by
 unfold laws_FnAsOf at h
 refine en Try.func4 Try.ntmps4 ?_
 refine qs (qr (oN 1 [] [0] ?_))
 refine oe (nt (qs (qs (qr (oN 1 [(10, .v (.slice a0_0 x0.length c0_0))] [0] ?_)))))
 obtain ⟨t21, h22, h23⟩ := bS h
 refine k0 (fun γ w hs => c_laws_big h22 (hv0_0.kept hs.kept)) ?_
 refine oe (nt (cC h23 (fun h26 => ?_) (fun h27 => ?_)))
 · refine qs (qr (oN 1 [(2, vb true)] [] ?_))
   refine oe (nt (qe (nr ?_)))
   obtain rfl := sI h26
   exact re [.bool true]
 refine qk (nt (qs (qr (oN 1 [(12, .v (.slice a0_0 x0.length c0_0))] [0] ?_))))
 obtain ⟨t28, h29, h30⟩ := bS h27
 refine k1 (fun γ w hs => c_spec_DrawCase h29 (hv0_0.kept hs.kept)) (fun y31 => ?_)
 refine oB 2 [(3, .p 0 0)] [0] [(38, (eCase t28 y31))] ?_
 refine oe (nt (qs (qr (oN 1 [(14, .v (.slice a0_0 x0.length c0_0))] [3] ?_))))
 obtain ⟨t32, h33, h34⟩ := bS h30
 refine k1 (fun γ w hs => c_spec_DrawPlaces h33 (hv0_0.kept hs.kept)) (fun y35 => ?_)
 refine oN 1 [(4, .v (.slice y35.1 t32.length y35.2))] [3] ?_
 refine oe (nt (qs (qr (oN 1 [(16, .v (.slice y35.1 t32.length y35.2))] [4, 3] ?_))))
 obtain ⟨x36, hx37, h38⟩ := bS h34
 refine oi 1 (fun γ w hs => (hs.view 0 rfl)) hx37 ?_
 refine ol 3 0 (.int .i64 x36) (fun γ w hs => (hs.view 0 rfl).flatq hx37) ?_
 refine oN 2 [(5, vi (Int.tmod x36 100))] [4, 3] ?_
 refine oe (nt (qs (qr (oN 1 [(20, .v (.slice y35.1 t32.length y35.2))] [5, 3] ?_))))
 obtain ⟨x39, hx40, h41⟩ := bS h38
 refine oi 1 (fun γ w hs => (hs.view 0 rfl)) hx40 ?_
 refine ol 3 0 (.int .i64 x39) (fun γ w hs => (hs.view 0 rfl).flatq hx40) ?_
 refine oN 2 [(6, vi (Int.tmod x39 100))] [5, 3] ?_
 refine oe (nt (qs (qr (oN 2 [(25, vi (Int.tmod x36 100)), (24, .v (vCase t28 y31))] [6, 5, 3] ?_))))
 obtain ⟨t42, h43, h44⟩ := bS h41
 refine k1 (fun γ w hs => c_impl_CaseAsOf (b0 := y31) h43 (hs.view 1 rfl) (hs.view 2 rfl) (hs.view 3 rfl) (hs.view 4 rfl) (hs.view 5 rfl)) (fun y45 => ?_)
 refine oN 1 [(27, vi (Int.tmod x39 100))] [26, 6, 5, 3] ?_
 obtain ⟨t46, h47, h48⟩ := bS h44
 refine k1 (fun γ w hs => c_impl_CaseAsOf (b0 := y45) h47 (hs.view 0 rfl) (hs.view 1 rfl) (hs.view 2 rfl) (hs.view 3 rfl) (hs.view 4 rfl)) (fun y49 => ?_)
 refine oB 2 [(7, .p 1 0)] [6, 5, 3] [(38, (eCase t28 y31)), (38, (eCase t46 y49))] ?_
 refine oe (nt (qs (qr (oN 4 [(32, vi (imin (Int.tmod x36 100) (Int.tmod x39 100))), (29, .v (vCase t28 y31))] [7, 5, 3] ?_))))
 obtain ⟨t50, h51, h52⟩ := bS h48
 refine k1 (fun γ w hs => c_impl_CaseAsOf (b0 := y31) h51 (hs.view 11 rfl) (hs.view 12 rfl) (hs.view 13 rfl) (hs.view 14 rfl) (hs.view 15 rfl)) (fun y53 => ?_)
 refine oB 2 [(8, .p 2 0)] [7, 5, 3] [(38, (eCase t28 y31)), (38, (eCase t46 y49)), (38, (eCase t50 y53))] ?_
 refine oe (nt (qs (qr (oN 3 [(36, vi (Int.tmod x36 100)), (35, .v (vSeries t28.Series y31.2.2.1))] [8, 7] ?_))))
 obtain ⟨t54, h55, h56⟩ := bS h52
 refine k1 (fun γ w hs => c_impl_SeriesAsOf h55 (hs.view 18 rfl)) (fun y57 => ?_)
 refine oB 2 [(9, .p 3 0)] [8, 7] [(38, (eCase t28 y31)), (38, (eCase t46 y49)), (38, (eCase t50 y53)), (32, (eSeries t54 y57))] ?_
 refine oe (nt (qs ?_))
 obtain ⟨p58, hE59, h60⟩ := bS h56
 refine JC_cut (τ := Unit) (fun _ => [(2, vb p58)]) (fun _ => [(38, (eCase t28 y31)), (38, (eCase t46 y49)), (38, (eCase t50 y53)), (32, (eSeries t54 y57))]) (fun _ => [SlRes 48 t28.Book.Rules y31.1.1 y31.1.2, SlRes 79 t28.Store.Facts y31.2.1.1 y31.2.1.2, SlRes 75 t28.Series.Points y31.2.2.1.1 y31.2.2.1.2, SlRes 94 t28.Member.Spells y31.2.2.2.1.1 y31.2.2.2.1.2, SlRes 97 t28.Member.Events y31.2.2.2.2.1 y31.2.2.2.2.2, SlRes 48 t46.Book.Rules y49.1.1 y49.1.2, SlRes 79 t46.Store.Facts y49.2.1.1 y49.2.1.2, SlRes 75 t46.Series.Points y49.2.2.1.1 y49.2.2.1.2, SlRes 94 t46.Member.Spells y49.2.2.2.1.1 y49.2.2.2.1.2, SlRes 97 t46.Member.Events y49.2.2.2.2.1 y49.2.2.2.2.2, SlRes 48 t50.Book.Rules y53.1.1 y53.1.2, SlRes 79 t50.Store.Facts y53.2.1.1 y53.2.1.2, SlRes 75 t50.Series.Points y53.2.2.1.1 y53.2.2.1.2, SlRes 94 t50.Member.Spells y53.2.2.2.1.1 y53.2.2.2.1.2, SlRes 97 t50.Member.Events y53.2.2.2.2.1 y53.2.2.2.2.2, SlRes 75 t54.Points y57.1 y57.2]) ?_ (fun _ => ?_)
 · refine qr (oN 6 [(43, .v (.slice y53.2.1.1 t50.Store.Facts.length y53.2.1.2)), (40, .v (.slice y49.2.1.1 t46.Store.Facts.length y49.2.1.2))] [9, 8, 7] ?_)
   obtain ⟨t61, h62, h63⟩ := bS hE59
   refine k0 (fun γ w hs => c_laws_sameFacts h62 (hs.view 7 rfl) (hs.view 2 rfl)) ?_
   refine oN 1 [(45, vb t61)] [9, 8, 7] ?_
   refine oS 45 h63 (fun h66 => ?_) (fun h67 => ?_)
   · refine oN 6 [(51, .v (.slice y53.2.2.1.1 t50.Series.Points.length y53.2.2.1.2)), (48, .v (.slice y49.2.2.1.1 t46.Series.Points.length y49.2.2.1.2))] [45, 9, 7] ?_
     obtain ⟨t68, h69, h70⟩ := bS h66
     refine k0 (fun γ w hs => c_laws_samePoints h69 (hs.view 8 rfl) (hs.view 3 rfl)) ?_
     refine oN 2 [(54, vb t68)] [9, 7] ?_
     refine oS 54 h70 (fun h73 => ?_) (fun h74 => ?_)
     · refine oN 1 [(55, .v (vSeries t54 y57))] [54, 7] ?_
       obtain ⟨t75, h76, h77⟩ := bS h73
       refine k0 (fun γ w hs => c_impl_SeriesOk h76 (hs.view 0 rfl)) ?_
       refine oN 2 [(58, vb t75)] [7] ?_
       refine oS 58 h77 (fun h80 => ?_) (fun h81 => ?_)
       · refine oN 1 [(59, .v (vCase t46 y49))] [58] ?_
         obtain ⟨t82, h83, h84⟩ := bS h80
         refine k0 (fun γ w hs => c_impl_CaseOk (b0 := y49) h83 (hs.view 6 rfl) (hs.view 7 rfl) (hs.view 8 rfl) (hs.view 9 rfl) (hs.view 10 rfl)) ?_
         refine oN 2 [(2, vb t82)] [] ?_
         refine oe ?_
         obtain rfl := sI h84
         exact mt () [2] [17, 17, 17, 17, 17, 6, 6, 6, 6, 6, 1, 1, 1, 1, 1, 0] 4
       refine oN 4 [(2, vb false)] [] ?_
       refine oe ?_
       obtain rfl := sI h81
       exact mt () [2] [17, 17, 17, 17, 17, 6, 6, 6, 6, 6, 1, 1, 1, 1, 1, 0] 4
     refine oN 8 [(2, vb false)] [] ?_
     refine oe ?_
     obtain rfl := sI h74
     exact mt () [2] [17, 17, 17, 17, 17, 6, 6, 6, 6, 6, 1, 1, 1, 1, 1, 0] 4
   refine oN 17 [(2, vb false)] [] ?_
   refine oe ?_
   obtain rfl := sI h67
   exact mt () [2] [17, 17, 17, 17, 17, 6, 6, 6, 6, 6, 1, 1, 1, 1, 1, 0] 4
 refine nt (qe ?_)
 obtain rfl := sI h60
 exact re [.bool p58]
end Go.Pen
