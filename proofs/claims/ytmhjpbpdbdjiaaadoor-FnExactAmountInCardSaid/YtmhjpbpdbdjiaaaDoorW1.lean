/-
  Each Go function does what its plain function says: written by a program of ours.
-/
import Derived.Test.YtmhjpbpdbdjiaaaDoorF
import Derived.Test.YtmhjpbpdbdjiaaaDoorProg
import Derived.Test.YtmhjpbpdbdjiaaaDoorPenK
import Derived.Test.YtmhjpbpdbdjiaaaDoorPenN
import Derived.Test.YtmhjpbpdbdjiaaaDoorPenT
namespace Go.Pen
open Go.Proofs Go.RowKit
set_option linter.unusedVariables false
set_option linter.unusedSimpArgs false
set_option maxRecDepth 100000
set_option maxHeartbeats 4000000

theorem c_laws_szStringS {W : World} {x0 : List ByteArray} {a0_0 : Option Addr} {c0_0 : Nat} {x1 : Int} {r : Int} (h : laws_szStringS x0 x1 = some r) (hv0_0 : SlView W x0 a0_0 c0_0) :
    Gives0 Tryd.prog 4 #[.slice a0_0 x0.length c0_0, .int .i64 x1] W (.int .i64 r) := by
 unfold laws_szStringS at h
 refine en Tryd.func4 Tryd.ntmps4 ?_
 refine qs (qr (oN 1 [] [0, 1] ?_))
 refine oe (nt (qs (qr (oN 5 [(1, vi (w64 (x1 - (x0.length : Int))))] [0] ?_))))
 refine oe (nt (qs (qs (qr (oN 2 [(11, vb (decide ((w64 (x1 - (x0.length : Int))) < 0)))] [1, 0] ?_)))))
 refine oe (nt (cC h (fun h22 => ?_) (fun h23 => ?_)))
 · refine qs (qr (oN 1 [(4, vi (-1))] [] ?_))
   refine oe (nt (qe (nr ?_)))
   obtain rfl := sI h22
   exact re [.int .i64 (-1)]
 refine qk (nt (qs (qs (qr (oN 1 [(5, vi 0)] [1, 0] ?_)))))
 refine oe (nt ?_)
 obtain ⟨r27, hL28, h29⟩ := bS h23
 obtain ⟨k30, hk31, h29⟩ := brkS h29
 refine JC_cutP (τ := (Int) × (Unit)) (fun y => k30 y.1 = some r) (fun y35 => [(1, vi y35.1)]) (fun y35 => []) (fun y35 => []) ?_ (fun y35 h36p => ?_)
 · refine qb (lp Unit hL28 (fun s24 y25 => [(5, vi s24.1), (1, vi s24.2), (0, .v (.slice a0_0 x0.length c0_0))]) (fun s24 y25 => []) (fun s24 y25 => []) () [5, 1, 0] [] 0 (fun s24 y25 t26 h32 hd33 => ?_))
   refine qs (qs (qr (oN 4 [(15, vb (decide (s24.1 < (x0.length : Int))))] [5, 1, 0] ?_)))
   refine oe (nt (cC h32 (fun h38 => ?_) (fun h39 => ?_)))
   · refine qk (nt (qs (qb (qs (qr (oN 3 [(20, vi s24.1), (19, .v (.slice a0_0 x0.length c0_0)), (18, vi s24.2)] [5, 0] ?_))))))
     obtain ⟨x40, hx41, h42⟩ := bS h38
     refine oi 1 (fun γ w hs => (hv0_0.kept hs.kept)) hx41 ?_
     refine ol 9 0 (.string x40) (fun γ w hs => (hv0_0.kept hs.kept).flatq hx41) ?_
     refine oN 3 [(1, vi (w64 (s24.2 - (x40.size : Int))))] [5, 0] ?_
     refine oe (nt (qs (qr (oN 2 [(26, vb (decide ((w64 (s24.2 - (x40.size : Int))) < 0)))] [1, 5, 0] ?_))))
     refine oe (nt (cC h42 (fun h44 => ?_) (fun h45 => ?_)))
     · refine qs (qr (oN 1 [(4, vi (-1))] [] ?_))
       refine oe (nt (qe (br (nr (nr ?_)))))
       have h46 := leafR hd33 h44 h29
       refine br (nr (nr ?_))
       obtain rfl := sI h46
       exact re [.int .i64 (-1)]
     refine qk (bn (nt (qr (oN 3 [(5, vi (w64 (s24.1 + 1)))] [1, 0] ?_))))
     exact oe (ct h45 () [5, 1, 0] [] 0)
   refine qx (nx (nx (bh ?_)))
   have h47 := leafB hd33 h39 h29
   exact mp (s24.2, ()) h47 [1] [] 0
 have h36 := (congrFun hk31 _).symm.trans h36p
 refine nt (qs (qr (oN 2 [(4, vi y35.1)] [] ?_)))
 refine oe (nt (qe ?_))
 obtain rfl := sI h36
 exact re [.int .i64 y35.1]

theorem c_laws_toStringS {W : World} {x0 : List ByteArray} {a0_0 : Option Addr} {c0_0 : Nat} {r : (List ByteArray)} (h : laws_toStringS x0 = some r) (hv0_0 : SlView W x0 a0_0 c0_0) :
    Gives Tryd.prog 6 #[.slice a0_0 x0.length c0_0] W (fun y : AC => .slice y.1 r.length y.2) (fun y => [SlRes 9 r y.1 y.2]) := by
 unfold laws_toStringS at h
 refine en Tryd.func6 Tryd.ntmps6 ?_
 refine qs (qr (oN 1 [] [0] ?_))
 refine oe (nt (qs (qr (oN 2 [(6, vi (x0.length : Int))] [0] ?_))))
 obtain ⟨l22, hm23, h24⟩ := bS h
 refine JO_make (α := ByteArray) rfl (by kernel_rfl) (t := 22) (e := 9) (m := (x0.length : Int)) (by kernel_rfl) (i := Tryd.t9) (by kernel_rfl) (z := (.string (ByteArray.mk #[]))) (by kernel_rfl) (by kernel_rfl) (by kernel_rfl) (by kernel_rfl) (fun w => ⟨rfl, rfl⟩) hm23 _ (fun _ => rfl) (fun y21 => ?_)
 refine oN 1 [(3, .v (.slice y21.1 l22.length y21.2))] [0] ?_
 refine oe (nt (qs (qs (qr (oN 1 [(4, vi 0)] [3, 0] ?_)))))
 refine oe (nt ?_)
 obtain ⟨r28, hL29, h30⟩ := bS h24
 obtain ⟨k31, hk32, h30⟩ := brkS h30
 refine JC_cutP (τ := ((List ByteArray)) × (Unit)) (fun y => k31 y.1 = some r) (fun y36 => [(3, .v (.slice y21.1 y36.1.length y21.2))]) (fun y36 => []) (fun y36 => [SlRes 9 y36.1 y21.1 y21.2]) ?_ (fun y36 h37p => ?_)
 · refine qb (lp Unit hL29 (fun s25 y26 => [(4, vi s25.1), (3, .v (.slice y21.1 s25.2.length y21.2)), (0, .v (.slice a0_0 x0.length c0_0))]) (fun s25 y26 => []) (fun s25 y26 => [SlRes 9 s25.2 y21.1 y21.2]) () [4, 3, 0] [0] 0 (fun s25 y26 t27 h33 hd34 => ?_))
   refine qs (qs (qr (oN 4 [(11, vb (decide (s25.1 < (x0.length : Int))))] [4, 3, 0] ?_)))
   refine oe (nt (cC h33 (fun h39 => ?_) (fun h40 => ?_)))
   · refine qk (nt (qs (qb (qr (oN 4 [(17, vi s25.1), (16, .v (.slice a0_0 x0.length c0_0)), (15, vi s25.1), (14, .v (.slice y21.1 s25.2.length y21.2))] [4, 3, 0] ?_)))))
     obtain ⟨x41, hx42, h43⟩ := bS h39
     refine oi 1 (fun γ w hs => (hv0_0.kept hs.kept)) hx42 ?_
     refine ol 9 0 (.string x41) (fun γ w hs => (hv0_0.kept hs.kept).flatq hx42) ?_
     obtain ⟨x44, hx45, h46⟩ := bS h43
     refine oi 1 (fun γ w hs => (hs.view 0 rfl)) hx45 ?_
     obtain ⟨l47, hm48, h49⟩ := bS h46
     replace hm48 := (sI hm48).symm
     refine JO_storeq (α := ByteArray) (d := y21.1) (vs := [.string x41]) (j := s25.1) (x' := x41) rfl (by kernel_rfl) 0 (by kernel_rfl) hx45 (Rc := []) (Rr := []) rfl (by kernel_rfl) (fun w c F Fs ho _ _ => own_flat_set (by kernel_rfl) ho) hm48 rfl ?_
     have hl50 := len_set hm48
     refine JO_keep [19, 18, 17, 16, 15, 14, 4, 3, 0] (sl' := [(19, .v (.string x41)), (18, .q a0_0 (Int.toNat s25.1 * 1)), (17, vi s25.1), (16, .v (.slice a0_0 x0.length c0_0)), (15, vi s25.1), (14, .v (.slice y21.1 s25.2.length y21.2)), (4, vi s25.1), (3, .v (.slice y21.1 s25.2.length y21.2)), (0, .v (.slice a0_0 x0.length c0_0))]) (by kernel_rfl) ?_
     refine JO_eqE (sl' := [(19, .v (.string x41)), (18, .q a0_0 (Int.toNat s25.1 * 1)), (17, vi s25.1), (16, .v (.slice a0_0 x0.length c0_0)), (15, vi s25.1), (14, .v (.slice y21.1 l47.length y21.2)), (4, vi s25.1), (3, .v (.slice y21.1 l47.length y21.2)), (0, .v (.slice a0_0 x0.length c0_0))]) (bx' := []) (by simp only [hl50]) rfl ?_
     refine oe (bn (nt (qr (oN 3 [(4, vi (w64 (s25.1 + 1)))] [3, 0] ?_))))
     exact oe (ct h49 () [4, 3, 0] [0] 0)
   refine qx (nx (nx (bh ?_)))
   have h51 := leafB hd34 h40 h30
   exact mp (s25.2, ()) h51 [3] [0] 0
 have h37 := (congrFun hk32 _).symm.trans h37p
 refine nt (qs (qr (oN 2 [(2, .v (.slice y21.1 y36.1.length y21.2))] [] ?_)))
 refine oe (nt (qe (rt [.slice y21.1 y36.1.length y21.2] (fun γ w hs => ?_))))
 rw [← sI h37]
 exact ⟨y21, rfl, hs.kept.toBelow, (hs.takeR (is := [0]) rfl).fresh⟩

theorem c_spec_l01Figure {W : World} {x0 : Int} {r : Int} (h : spec_l01Figure x0 = some r)  :
    Gives0 Tryd.prog 17 #[.int .i64 x0] W (.int .u8 r) := by
 unfold spec_l01Figure at h
 refine en Tryd.func17 Tryd.ntmps17 ?_
 refine qs (qr (oN 1 [] [0] ?_))
 refine oe (nt (qs (qs (qr (oN 2 [(4, vb (decide (x0 < 10)))] [0] ?_)))))
 refine oe (nt (cC h (fun h22 => ?_) (fun h23 => ?_)))
 · refine qs (qr (oN 4 [(2, .v (.int .u8 (w8 (w64 (48 + x0)))))] [] ?_))
   refine oe (nt (qe (nr ?_)))
   obtain rfl := sI h22
   exact re [.int .u8 (w8 (w64 (48 + x0)))]
 refine qk (nt (qs (qr (oN 5 [(2, .v (.int .u8 (w8 (w64 ((w64 (97 + x0)) - 10)))))] [] ?_))))
 refine oe (nt (qe ?_))
 obtain rfl := sI h23
 exact re [.int .u8 (w8 (w64 ((w64 (97 + x0)) - 10)))]

theorem c_spec_FormatInt {W : World} {x0 : Int} {r : ByteArray} (h : spec_FormatInt x0 = some r)  :
    Gives0 Tryd.prog 12 #[.int .i64 x0] W (.string r) := by
 unfold spec_FormatInt at h
 refine en Tryd.func12 Tryd.ntmps12 ?_
 refine qs (qr (oN 1 [] [0] ?_))
 refine oe (nt (qs (qs (qr (oN 2 [(7, vb (x0 == 0))] [0] ?_)))))
 refine oe (nt (cC h (fun h22 => ?_) (fun h23 => ?_)))
 · refine qs (qr (oN 1 [(2, .v (.string (ByteArray.mk #[48])))] [] ?_))
   refine oe (nt (qe (nr ?_)))
   obtain rfl := sI h22
   exact re [.string (ByteArray.mk #[48])]
 refine qk (nt (qs (qr (oN 3 [(3, vb (decide (x0 < 0)))] [0] ?_))))
 refine oe (nt (qs (qr (oN 1 [(4, .v (.string (ByteArray.mk #[])))] [3, 0] ?_))))
 refine oe (nt (qs ?_))
 obtain ⟨r27, hL28, h29⟩ := bS h23
 obtain ⟨k30, hk31, h29⟩ := brkS h29
 refine JC_cutP (τ := (ByteArray) × (Unit)) (fun y => k30 y.1 = some r) (fun y35 => [(4, .v (.string y35.1)), (3, vb (decide (x0 < 0)))]) (fun y35 => []) (fun y35 => []) ?_ (fun y35 h36p => ?_)
 · refine qb (lp Unit hL28 (fun s24 y25 => [(4, .v (.string s24.1)), (3, vb (decide (x0 < 0))), (0, vi s24.2)]) (fun s24 y25 => []) (fun s24 y25 => []) () [4, 3, 0] [] 0 (fun s24 y25 t26 h32 hd33 => ?_))
   refine qs (qs (qr (oN 2 [(11, vb (s24.2 != 0))] [4, 3, 0] ?_)))
   refine oe (nt (cC h32 (fun h47 => ?_) (fun h48 => ?_)))
   · refine qk (nt (qb (qs (qr (oN 3 [(5, vi (Int.tmod s24.2 10))] [4, 3, 0] ?_)))))
     refine oe (nt (qs (qs (qr (oN 2 [(15, vb (decide ((Int.tmod s24.2 10) < 0)))] [5, 4, 3, 0] ?_)))))
     refine oe (nt ?_)
     obtain ⟨k52, hk53, h64⟩ := jS h47
     refine JC_cutP (τ := (Int) × (Unit)) (fun y => k52 y.1 = some t26) (fun y51 => [(5, vi y51.1), (4, .v (.string s24.1)), (3, vb (decide (x0 < 0))), (0, vi s24.2)]) (fun y51 => []) (fun y51 => []) ?_ (fun y51 h54p => ?_)
     · refine cC h64 (fun h66 => ?_) (fun h67 => ?_)
       · refine qr (oN 3 [(5, vi (w64 (0 - (Int.tmod s24.2 10))))] [4, 3, 0] ?_)
         exact oe (mp (w64 (0 - (Int.tmod s24.2 10)), ()) h66 [5, 4, 3, 0] [] 0)
       exact qk (mp (Int.tmod s24.2 10, ()) h67 [5, 4, 3, 0] [] 0)
     have h54 := (congrFun hk53 _).symm.trans h54p
     refine nt (qs (qr (oN 1 [(18, vi y51.1)] [4, 3, 0] ?_)))
     obtain ⟨t55, h56, h57⟩ := bS h54
     refine k0 (fun γ w hs => c_spec_l01Figure h56) ?_
     refine ob [] [] 5 1 [.int .u8 t55] ([U8.mk t55] : List U8) (own_flat (by kernel_rfl)) (fun y59 => ?_)
     refine JO_bstr rfl (by kernel_rfl) (ad := y59.1) (c := y59.2) (xs := ([U8.mk t55] : List U8)) (by kernel_rfl) (fun γ w hs => (hs.view 0 rfl)) (sl' := [(21, .v (.string (bytesS ([U8.mk t55] : List U8)))), (20, .v (.slice y59.1 ([U8.mk t55] : List U8).length y59.2)), (19, .v (.int .u8 t55)), (18, vi y51.1), (4, .v (.string s24.1)), (3, vb (decide (x0 < 0))), (0, vi s24.2)]) (by kernel_rfl) ?_
     refine oN 1 [(22, .v (.string s24.1))] [21, 3, 0] ?_
     obtain ⟨s61, hm62, h63⟩ := bS h57
     refine JO_sadd rfl (by kernel_rfl) (x := (bytesS ([U8.mk t55] : List U8))) (y := s24.1) (by kernel_rfl) hm62 (sl' := [(23, .v (.string s61)), (22, .v (.string s24.1)), (21, .v (.string (bytesS ([U8.mk t55] : List U8)))), (3, vb (decide (x0 < 0))), (0, vi s24.2)]) (by kernel_rfl) ?_
     refine oN 1 [(4, .v (.string s61))] [3, 0] ?_
     refine oe (nt (qr (oN 3 [(0, vi (w64 (Int.tdiv s24.2 10)))] [4, 3] ?_)))
     exact oe (bn (ct h63 () [4, 3, 0] [] 0))
   refine qx (nx (nx (bh ?_)))
   have h68 := leafB hd33 h48 h29
   exact mp (s24.1, ()) h68 [4, 3] [] 0
 have h36 := (congrFun hk31 _).symm.trans h36p
 refine nt (qs (qs (qr (oN 1 [(26, vb (decide (x0 < 0)))] [4] ?_))))
 refine oe (nt (cC h36 (fun h41 => ?_) (fun h42 => ?_)))
 · refine qs (qr (oN 1 [(27, .v (.string y35.1))] [] ?_))
   obtain ⟨s43, hm44, h45⟩ := bS h41
   refine JO_sadd rfl (by kernel_rfl) (x := (ByteArray.mk #[45])) (y := y35.1) (by kernel_rfl) hm44 (sl' := [(28, .v (.string s43)), (27, .v (.string y35.1))]) (by kernel_rfl) ?_
   refine oN 1 [(2, .v (.string s43))] [] ?_
   refine oe (nt (qe (nr ?_)))
   obtain rfl := sI h45
   exact re [.string s43]
 refine qk (nt (qs (qr (oN 2 [(2, .v (.string y35.1))] [] ?_))))
 refine oe (nt (qe ?_))
 obtain rfl := sI h42
 exact re [.string y35.1]

theorem c_spec_ParseUint {W : World} {x0 : ByteArray} {r : Int × Bool} (h : spec_ParseUint x0 = some r)  :
    Gives0 Tryd.prog 9 #[.string x0] W (.tuple #[.int .i64 r.1, .bool r.2]) := by
 unfold spec_ParseUint at h
 refine en Tryd.func9 Tryd.ntmps9 ?_
 refine qs (qr (oN 2 [] [0] ?_))
 refine oe (nt (qs (qs (qr (oN 3 [(8, vb (decide ((x0.size : Int) > 10)))] [0] ?_)))))
 refine oe (nt (cC h (fun h22 => ?_) (fun h23 => ?_)))
 · refine qs (qr (oN 2 [(3, vb false), (2, vi 0)] [] ?_))
   refine oe (nt (qe (nr ?_)))
   obtain rfl := sI h22
   exact re [.int .i64 0, .bool false]
 refine qk (nt (qs (qr (oN 1 [(4, vi 0)] [0] ?_))))
 refine oe (nt (qs (qs (qr (oN 1 [(5, vi 0)] [4, 0] ?_)))))
 refine oe (nt ?_)
 obtain ⟨r27, hL28, h29⟩ := bS h23
 obtain ⟨k30, hk31, h29⟩ := brkS h29
 refine JC_cutP (τ := (Int) × (Unit)) (fun y => k30 y.1 = some r) (fun y35 => [(4, vi y35.1), (0, .v (.string x0))]) (fun y35 => []) (fun y35 => []) ?_ (fun y35 h36p => ?_)
 · refine qb (lp Unit hL28 (fun s24 y25 => [(5, vi s24.1), (4, vi s24.2), (0, .v (.string x0))]) (fun s24 y25 => []) (fun s24 y25 => []) () [5, 4, 0] [] 0 (fun s24 y25 t26 h32 hd33 => ?_))
   refine qs (qs (qr (oN 4 [(12, vb (decide (s24.1 < (x0.size : Int))))] [5, 4, 0] ?_)))
   refine oe (nt (cC h32 (fun h51 => ?_) (fun h52 => ?_)))
   · refine qk (nt (qs (qb (qs (qs ?_)))))
     obtain ⟨p53, hE54, h55⟩ := bS h51
     refine JC_cut (τ := Unit) (fun _ => [(0, .v (.string x0)), (4, vi s24.2), (5, vi s24.1), (24, vb p53)]) (fun _ => []) (fun _ => []) ?_ (fun _ => ?_)
     · refine qr (oN 2 [(16, vi s24.1), (15, .v (.string x0))] [5, 4, 0] ?_)
       obtain ⟨s56, hm57, h58⟩ := bS hE54
       refine JO_sidx rfl (by kernel_rfl) (s := x0) (i := s24.1) (by kernel_rfl) hm57 (sl' := [(17, .v (.int .u8 s56)), (16, vi s24.1), (15, .v (.string x0)), (5, vi s24.1), (4, vi s24.2), (0, .v (.string x0))]) (by kernel_rfl) ?_
       refine oN 2 [(19, vb (decide (s56 < 48)))] [5, 4, 0] ?_
       refine oS 19 h58 (fun h60 => ?_) (fun h61 => ?_)
       · refine oN 5 [(24, vb true)] [5, 4, 0] ?_
         refine oe ?_
         obtain rfl := sI h60
         exact mt () [0, 4, 5, 24] [] 0
       refine oN 2 [(21, vi s24.1), (20, .v (.string x0))] [19, 5, 4, 0] ?_
       obtain ⟨s62, hm63, h64⟩ := bS h61
       refine JO_sidx rfl (by kernel_rfl) (s := x0) (i := s24.1) (by kernel_rfl) hm63 (sl' := [(22, .v (.int .u8 s62)), (21, vi s24.1), (20, .v (.string x0)), (19, vb false), (5, vi s24.1), (4, vi s24.2), (0, .v (.string x0))]) (by kernel_rfl) ?_
       refine oN 2 [(24, vb (decide (s62 > 57)))] [5, 4, 0] ?_
       refine oe ?_
       obtain rfl := sI h64
       exact mt () [0, 4, 5, 24] [] 0
     refine nt (cC h55 (fun h66 => ?_) (fun h67 => ?_))
     · refine qs (qr (oN 2 [(3, vb false), (2, vi 0)] [] ?_))
       refine oe (nt (qe (nr (br (nr (nr ?_))))))
       have h68 := leafR hd33 h66 h29
       refine br (nr (nr ?_))
       obtain rfl := sI h68
       exact re [.int .i64 0, .bool false]
     refine qk (nt (qr (oN 4 [(28, vi s24.1), (27, .v (.string x0)), (26, vi (w64 (10 * s24.2)))] [0, 5] ?_)))
     obtain ⟨s69, hm70, h71⟩ := bS h67
     refine JO_sidx rfl (by kernel_rfl) (s := x0) (i := s24.1) (by kernel_rfl) hm70 (sl' := [(29, .v (.int .u8 s69)), (28, vi s24.1), (27, .v (.string x0)), (26, vi (w64 (10 * s24.2))), (0, .v (.string x0)), (5, vi s24.1)]) (by kernel_rfl) ?_
     refine oN 4 [(4, vi (w64 ((w64 ((w64 (10 * s24.2)) + (w64 s69))) - 48)))] [0, 5] ?_
     refine oe (bn (nt (qr (oN 3 [(5, vi (w64 (s24.1 + 1)))] [4, 0] ?_))))
     exact oe (ct h71 () [5, 4, 0] [] 0)
   refine qx (nx (nx (bh ?_)))
   have h72 := leafB hd33 h52 h29
   exact mp (s24.2, ()) h72 [4, 0] [] 0
 have h36 := (congrFun hk31 _).symm.trans h36p
 refine nt (qs (qs ?_))
 obtain ⟨p37, hE38, h39⟩ := bS h36
 refine JC_cut (τ := Unit) (fun _ => [(4, vi y35.1), (40, vb p37)]) (fun _ => []) (fun _ => []) ?_ (fun _ => ?_)
 · refine qr (oN 3 [(35, vb (decide (y35.1 > 1000000000)))] [4, 0] ?_)
   refine oS 35 hE38 (fun h41 => ?_) (fun h42 => ?_)
   · refine oN 5 [(40, vb true)] [4] ?_
     refine oe ?_
     obtain rfl := sI h41
     exact mt () [4, 40] [] 0
   refine oN 1 [(36, vi y35.1)] [35, 4, 0] ?_
   obtain ⟨t43, h44, h45⟩ := bS h42
   refine k0 (fun γ w hs => c_spec_FormatInt h44) ?_
   refine oN 3 [(40, vb (!(t43.toList == x0.toList)))] [4] ?_
   refine oe ?_
   obtain rfl := sI h45
   exact mt () [4, 40] [] 0
 refine nt (cC h39 (fun h48 => ?_) (fun h49 => ?_))
 · refine qs (qr (oN 2 [(3, vb false), (2, vi 0)] [] ?_))
   refine oe (nt (qe (nr ?_)))
   obtain rfl := sI h48
   exact re [.int .i64 0, .bool false]
 refine qk (nt (qs (qr (oN 3 [(3, vb true), (2, vi y35.1)] [] ?_))))
 refine oe (nt (qe ?_))
 obtain rfl := sI h49
 exact re [.int .i64 y35.1, .bool true]

theorem c_spec_AmountIn {W : World} {x0 : List ByteArray} {a0_0 : Option Addr} {c0_0 : Nat} {r : Int} (h : spec_AmountIn x0 = some r) (hv0_0 : SlView W x0 a0_0 c0_0) :
    Gives0 Tryd.prog 5 #[.slice a0_0 x0.length c0_0] W (.int .i64 r) := by
 unfold spec_AmountIn at h
 refine en Tryd.func5 Tryd.ntmps5 ?_
 refine qs (qr (oN 1 [] [0] ?_))
 refine oe (nt (qs (qs (qr (oN 3 [(8, vb ((x0.length : Int) == 0))] [0] ?_)))))
 refine oe (nt (cC h (fun h22 => ?_) (fun h23 => ?_)))
 · refine qs (qr (oN 1 [(2, vi (-1))] [] ?_))
   refine oe (nt (qe (nr ?_)))
   obtain rfl := sI h22
   exact re [.int .i64 (-1)]
 refine qk (nt (qs (qr (oN 4 [(12, vi (w64 ((x0.length : Int) - 1))), (9, .v (.slice a0_0 x0.length c0_0))] [] ?_))))
 obtain ⟨x24, hx25, h26⟩ := bS h23
 refine oi 1 (fun γ w hs => (hv0_0.kept hs.kept)) hx25 ?_
 refine ol 9 0 (.string x24) (fun γ w hs => (hv0_0.kept hs.kept).flatq hx25) ?_
 refine oN 1 [(3, .v (.string x24))] [] ?_
 refine oe (nt (qs (qs ?_)))
 obtain ⟨p27, hE28, h29⟩ := bS h26
 refine JC_cut (τ := Unit) (fun _ => [(3, .v (.string x24)), (22, vb p27)]) (fun _ => []) (fun _ => []) ?_ (fun _ => ?_)
 · refine qr (oN 4 [(18, vb (decide ((x24.size : Int) < 7)))] [3] ?_)
   refine oS 18 hE28 (fun h31 => ?_) (fun h32 => ?_)
   · refine oN 4 [(22, vb true)] [3] ?_
     refine oe ?_
     obtain rfl := sI h31
     exact mt () [3, 22] [] 0
   refine oN 1 [(19, .v (.string x24))] [18, 3] ?_
   obtain ⟨s33, hm34, h35⟩ := bS h32
   refine JO_shead rfl (by kernel_rfl) (s := x24) (i := 7) (by kernel_rfl) hm34 (sl' := [(20, .v (.string s33)), (19, .v (.string x24)), (18, vb false), (3, .v (.string x24))]) (by kernel_rfl) ?_
   refine oN 2 [(22, vb (!(s33.toList == (ByteArray.mk #[97, 109, 111, 117, 110, 116, 32]).toList)))] [3] ?_
   refine oe ?_
   obtain rfl := sI h35
   exact mt () [3, 22] [] 0
 refine nt (cC h29 (fun h37 => ?_) (fun h38 => ?_))
 · refine qs (qr (oN 1 [(2, vi (-1))] [] ?_))
   refine oe (nt (qe (nr ?_)))
   obtain rfl := sI h37
   exact re [.int .i64 (-1)]
 refine qk (nt (qs (qr (oN 1 [(24, .v (.string x24))] [] ?_))))
 obtain ⟨s39, hm40, h41⟩ := bS h38
 refine JO_stail rfl (by kernel_rfl) (s := x24) (i := 7) (by kernel_rfl) hm40 (sl' := [(25, .v (.string s39)), (24, .v (.string x24))]) (by kernel_rfl) ?_
 obtain ⟨t42, h43, h44⟩ := bS h41
 refine k0 (fun γ w hs => c_spec_ParseUint h43) ?_
 refine oN 5 [(5, vb t42.2), (4, vi t42.1)] [] ?_
 refine oe (nt (qs (qs (qr (oN 2 [(30, vb (!t42.2))] [4] ?_)))))
 refine oe (nt (cC h44 (fun h47 => ?_) (fun h48 => ?_)))
 · refine qs (qr (oN 1 [(2, vi (-1))] [] ?_))
   refine oe (nt (qe (nr ?_)))
   obtain rfl := sI h47
   exact re [.int .i64 (-1)]
 refine qk (nt (qs (qr (oN 2 [(2, vi t42.1)] [] ?_))))
 refine oe (nt (qe ?_))
 obtain rfl := sI h48
 exact re [.int .i64 t42.1]

theorem c_strings_CutPrefix {W : World} {x0 x1 : ByteArray} {r : ByteArray × Bool} (h : strings_CutPrefix x0 x1 = some r) :
    Gives0 Tryd.prog 10 #[.string x0, .string x1] W (.tuple #[.string r.1, .bool r.2]) := by
  obtain rfl := Option.some.inj h
  exact Tryd.cutPrefix x0 x1 W

theorem c_impl_within {W : World} {x0 : Int} {x1 : Int} {x2 : Int} {r : Bool} (h : impl_within x0 x1 x2 = some r)  :
    Gives0 Tryd.prog 15 #[.int .i64 x0, .int .i64 x1, .int .i64 x2] W (.bool r) := by
 unfold impl_within at h
 refine en Tryd.func15 Tryd.ntmps15 ?_
 refine qs (qr (oN 1 [] [0, 1, 2] ?_))
 refine oe (nt (qs ?_))
 obtain ⟨p21, hE22, h23⟩ := bS h
 refine JC_cut (τ := Unit) (fun _ => [(6, vb p21)]) (fun _ => []) (fun _ => []) ?_ (fun _ => ?_)
 · refine qr (oN 4 [(10, vb (decide (x1 ≤ x0)))] [0, 2] ?_)
   refine oS 10 hE22 (fun h25 => ?_) (fun h26 => ?_)
   · refine oN 5 [(6, vb (decide (x0 ≤ x2)))] [] ?_
     refine oe ?_
     obtain rfl := sI h25
     exact mt () [6] [] 0
   refine oN 5 [(6, vb false)] [] ?_
   refine oe ?_
   obtain rfl := sI h26
   exact mt () [6] [] 0
 refine nt (qe ?_)
 obtain rfl := sI h23
 exact re [.bool p21]

theorem c_strconv_Itoa {W : World} {x0 : Int} {r : ByteArray} (h : strconv_Itoa x0 = some r) (hV : VarsAt W) :
    Gives0 Tryd.prog 21 #[.int .i64 x0] W (.string r) := by
  unfold strconv_Itoa at h
  split at h
  · rename_i hb
    obtain rfl := Option.some.inj h
    exact Tryd.itoa x0 hb.1 hb.2 W hV.tab
  · cases h

theorem c_impl_FormatInt {W : World} {x0 : Int} {r : ByteArray} (h : impl_FormatInt x0 = some r) (hV : VarsAt W) :
    Gives0 Tryd.prog 16 #[.int .i64 x0] W (.string r) := by
 unfold impl_FormatInt at h
 refine en Tryd.func16 Tryd.ntmps16 ?_
 refine qs (qr (oN 1 [] [0] ?_))
 refine oe (nt (qs (qr (oN 1 [(3, vi x0)] [] ?_))))
 obtain ⟨t21, h22, h23⟩ := bS h
 refine k0 (fun γ w hs => c_strconv_Itoa h22 (hV.kept hs.kept)) ?_
 refine oN 1 [(2, .v (.string t21))] [] ?_
 refine oe (nt (qe ?_))
 obtain rfl := sI h23
 exact re [.string t21]

theorem c_impl_ParseUint {W : World} {x0 : ByteArray} {r : Int × Bool} (h : impl_ParseUint x0 = some r) (hV : VarsAt W) :
    Gives0 Tryd.prog 11 #[.string x0] W (.tuple #[.int .i64 r.1, .bool r.2]) := by
 unfold impl_ParseUint at h
 refine en Tryd.func11 Tryd.ntmps11 ?_
 refine qs (qr (oN 2 [] [0] ?_))
 refine oe (nt (qs (qs (qr (oN 3 [(8, vb (decide ((x0.size : Int) > 10)))] [0] ?_)))))
 cases hz : decide ((x0.size : Int) > 10) with
 | true =>
  rw [hz] at h
  refine oe (nt (JC_cond true (by kernel_rfl) (fun _ => ?_) (fun e => by cases e)))
  refine qs (qr (oN 2 [(3, vb false), (2, vi 0)] [] ?_))
  refine oe (nt (qe (nr ?_)))
  obtain rfl := sI h
  exact re [.int .i64 0, .bool false]
 | false =>
 rw [hz] at h
 have hl : x0.size ≤ 18 := by have := of_decide_eq_false hz; omega
 clear hz
 refine oe (nt (JC_cond false (by kernel_rfl) (fun e => by cases e) (fun _ => ?_)))
 refine qk (nt (qs (qr (oN 1 [(10, .v (.string x0))] [0] ?_))))
 cases ha : Lib.atoi x0.data.toList with
 | none =>
  rw [ha] at h
  refine JO_call rfl (by kernel_rfl) (f := 14) (args := #[.string x0]) (by kernel_rfl) (τ := TypeId × Value) (val := fun y => .tuple #[.int .i64 0, .iface y.1 y.2]) (res := fun _ => []) (fun γ w hs => ?_) (fun y => [(11, .v (.tuple #[.int .i64 0, .iface y.1 y.2])), (10, .v (.string x0)), (0, .v (.string x0))]) (fun y => by kernel_rfl) (fun y => ?_)
  · refine (Tryd.atoi_none x0 hl ha w (hV.kept hs.kept).es).mono ?_
    rintro e w' ⟨⟨te, pe, he⟩, hb⟩
    exact ⟨(te, pe), he, hb, FreshR.nil _ _⟩
  refine oN 5 [(5, .v (.iface y.1 y.2)), (4, vi 0)] [0] ?_
  refine oe (nt (qs (qs (qr (oN 13 [(26, vb true)] [4] ?_)))))
  refine oe (nt (JC_cond true (by kernel_rfl) (fun _ => ?_) (fun e => by cases e)))
  refine qs (qr (oN 2 [(3, vb false), (2, vi 0)] [] ?_))
  refine oe (nt (qe (nr ?_)))
  obtain rfl := sI h
  exact re [.int .i64 0, .bool false]
 | some m =>
 rw [ha] at h
 refine k0 (x := .tuple #[.int .i64 m, .nilIface]) (fun γ w hs => Tryd.atoi_some x0 m hl ha w) ?_
 refine oN 5 [(5, .v .nilIface), (4, vi m)] [0] ?_
 refine oe (nt (qs (qs ?_)))
 replace h : Option.bind (α := Bool) ((impl_within m 0 1000000000).bind fun b => cond (!b) (some true) ((impl_FormatInt m).bind fun t => some (!(t.toList == x0.toList)))) (fun p => cond p (some (0, false)) (some (m, true))) = some r := h
 obtain ⟨p, hE, h2⟩ := bS h
 refine JC_cut (τ := Unit) (fun _ => [(4, vi m), (26, vb p)]) (fun _ => []) (fun _ => []) ?_ (fun _ => ?_)
 · refine qr (oN 4 [(17, vi m), (16, vb false)] [4, 0] ?_)
   obtain ⟨b, hb1, hb2⟩ := bS hE
   refine k0 (fun γ w hs => c_impl_within hb1) ?_
   refine oN 3 [(21, vb (!b))] [4, 0] ?_
   refine oS 21 hb2 (fun h3 => ?_) (fun h3 => ?_)
   · refine oN 5 [(26, vb true)] [4] ?_
     refine oe ?_
     obtain rfl := sI h3
     exact mt () [4, 26] [] 0
   refine oN 1 [(22, vi m)] [21, 4, 0] ?_
   obtain ⟨t, ht1, ht2⟩ := bS h3
   refine k0 (fun γ w hs => c_impl_FormatInt ht1 (hV.kept hs.kept)) ?_
   refine oN 3 [(26, vb (!(t.toList == x0.toList)))] [4] ?_
   refine oe ?_
   obtain rfl := sI ht2
   exact mt () [4, 26] [] 0
 refine nt (cC h2 (fun h3 => ?_) (fun h3 => ?_))
 · refine qs (qr (oN 2 [(3, vb false), (2, vi 0)] [] ?_))
   refine oe (nt (qe (nr ?_)))
   obtain rfl := sI h3
   exact re [.int .i64 0, .bool false]
 refine qk (nt (qs (qr (oN 3 [(3, vb true), (2, vi m)] [] ?_))))
 refine oe (nt (qe ?_))
 obtain rfl := sI h3
 exact re [.int .i64 m, .bool true]

theorem c_impl_AmountIn {W : World} {x0 : List ByteArray} {a0_0 : Option Addr} {c0_0 : Nat} {r : Int} (h : impl_AmountIn x0 = some r) (hV : VarsAt W) (hv0_0 : SlView W x0 a0_0 c0_0) :
    Gives0 Tryd.prog 7 #[.slice a0_0 x0.length c0_0] W (.int .i64 r) := by
 unfold impl_AmountIn at h
 refine en Tryd.func7 Tryd.ntmps7 ?_
 refine qs (qr (oN 1 [] [0] ?_))
 refine oe (nt (qs (qs (qr (oN 3 [(9, vb ((x0.length : Int) == 0))] [0] ?_)))))
 refine oe (nt (cC h (fun h22 => ?_) (fun h23 => ?_)))
 · refine qs (qr (oN 1 [(2, vi (-1))] [] ?_))
   refine oe (nt (qe (nr ?_)))
   obtain rfl := sI h22
   exact re [.int .i64 (-1)]
 refine qk (nt (qs (qr (oN 4 [(14, vi (w64 ((x0.length : Int) - 1))), (11, .v (.slice a0_0 x0.length c0_0))] [] ?_))))
 obtain ⟨x24, hx25, h26⟩ := bS h23
 refine oi 1 (fun γ w hs => (hv0_0.kept hs.kept)) hx25 ?_
 refine ol 9 0 (.string x24) (fun γ w hs => (hv0_0.kept hs.kept).flatq hx25) ?_
 obtain ⟨t27, h28, h29⟩ := bS h26
 refine k0 (fun γ w hs => c_strings_CutPrefix h28) ?_
 refine oN 5 [(4, vb t27.2), (3, .v (.string t27.1))] [] ?_
 refine oe (nt (qs (qr (oN 1 [(21, .v (.string t27.1))] [4] ?_))))
 obtain ⟨t31, h32, h33⟩ := bS h29
 refine k0 (fun γ w hs => c_impl_ParseUint h32 (hV.kept hs.kept)) ?_
 refine oN 5 [(6, vb t31.2), (5, vi t31.1)] [4] ?_
 refine oe (nt (qs (qs ?_)))
 obtain ⟨p35, hE36, h37⟩ := bS h33
 refine JC_cut (τ := Unit) (fun _ => [(5, vi t31.1), (30, vb p35)]) (fun _ => []) (fun _ => []) ?_ (fun _ => ?_)
 · refine qr (oN 3 [(27, vb (!t27.2))] [6, 5] ?_)
   refine oS 27 hE36 (fun h39 => ?_) (fun h40 => ?_)
   · refine oN 3 [(30, vb true)] [5] ?_
     refine oe ?_
     obtain rfl := sI h39
     exact mt () [5, 30] [] 0
   refine oN 3 [(30, vb (!t31.2))] [5] ?_
   refine oe ?_
   obtain rfl := sI h40
   exact mt () [5, 30] [] 0
 refine nt (cC h37 (fun h42 => ?_) (fun h43 => ?_))
 · refine qs (qr (oN 1 [(2, vi (-1))] [] ?_))
   refine oe (nt (qe (nr ?_)))
   obtain rfl := sI h42
   exact re [.int .i64 (-1)]
 refine qk (nt (qs (qr (oN 2 [(2, vi t31.1)] [] ?_))))
 refine oe (nt (qe ?_))
 obtain rfl := sI h43
 exact re [.int .i64 t31.1]

theorem c_laws_eqStringS {W : World} {x0 : List ByteArray} {a0_0 : Option Addr} {c0_0 : Nat} {x1 : List ByteArray} {a1_0 : Option Addr} {c1_0 : Nat} {r : Bool} (h : laws_eqStringS x0 x1 = some r) (hv0_0 : SlView W x0 a0_0 c0_0) (hv1_0 : SlView W x1 a1_0 c1_0) :
    Gives0 Tryd.prog 8 #[.slice a0_0 x0.length c0_0, .slice a1_0 x1.length c1_0] W (.bool r) := by
 unfold laws_eqStringS at h
 refine en Tryd.func8 Tryd.ntmps8 ?_
 refine qs (qr (oN 1 [] [0, 1] ?_))
 refine oe (nt (qs (qs (qr (oN 5 [(10, vb ((x0.length : Int) != (x1.length : Int)))] [0, 1] ?_)))))
 refine oe (nt (cC h (fun h22 => ?_) (fun h23 => ?_)))
 · refine qs (qr (oN 1 [(4, vb false)] [] ?_))
   refine oe (nt (qe (nr ?_)))
   obtain rfl := sI h22
   exact re [.bool false]
 refine qk (nt (qs (qs (qr (oN 1 [(5, vi 0)] [0, 1] ?_)))))
 refine oe (nt ?_)
 obtain ⟨r27, hL28, h29⟩ := bS h23
 obtain ⟨k30, hk31, h29⟩ := brkS h29
 refine JC_cutP (τ := (Unit) × (Unit)) (fun y => k30 y.1 = some r) (fun y35 => []) (fun y35 => []) (fun y35 => []) ?_ (fun y35 h36p => ?_)
 · refine qb (lp Unit hL28 (fun s24 y25 => [(5, vi s24), (0, .v (.slice a0_0 x0.length c0_0)), (1, .v (.slice a1_0 x1.length c1_0))]) (fun s24 y25 => []) (fun s24 y25 => []) () [5, 0, 1] [] 0 (fun s24 y25 t26 h32 hd33 => ?_))
   refine qs (qs (qr (oN 4 [(14, vb (decide (s24 < (x0.length : Int))))] [5, 0, 1] ?_)))
   refine oe (nt (cC h32 (fun h38 => ?_) (fun h39 => ?_)))
   · refine qk (nt (qs (qb (qs (JC_quiet (by kernel_rfl) (by kernel_rfl) ?_)))))
     refine qN 2 [(18, vi s24), (17, .v (.slice a0_0 x0.length c0_0))] [5, 0, 1] ?_
     obtain ⟨x40, hx41, h42⟩ := bS h38
     refine qi 1 (fun γ w hs => (hv0_0.kept hs.kept)) hx41 ?_
     refine ql 9 0 (.string x40) (fun γ w hs => (hv0_0.kept hs.kept).flatq hx41) ?_
     refine qN 2 [(22, vi s24), (21, .v (.slice a1_0 x1.length c1_0))] [20, 5, 0, 1] ?_
     obtain ⟨x43, hx44, h45⟩ := bS h42
     refine qi 1 (fun γ w hs => (hv1_0.kept hs.kept)) hx44 ?_
     refine ql 9 0 (.string x43) (fun γ w hs => (hv1_0.kept hs.kept).flatq hx44) ?_
     refine qN 1 [(25, vb (!(x40.toList == x43.toList)))] [5, 0, 1] ?_
     refine qz (nt (cC h45 (fun h47 => ?_) (fun h48 => ?_)))
     · refine qs (qr (oN 1 [(4, vb false)] [] ?_))
       refine oe (nt (qe (br (nr (nr ?_)))))
       have h49 := leafR hd33 h47 h29
       refine br (nr (nr ?_))
       obtain rfl := sI h49
       exact re [.bool false]
     refine qk (bn (nt (qr (oN 3 [(5, vi (w64 (s24 + 1)))] [0, 1] ?_))))
     exact oe (ct h48 () [5, 0, 1] [] 0)
   refine qx (nx (nx (bh ?_)))
   have h50 := leafB hd33 h39 h29
   exact mp ((), ()) h50 [] [] 0
 have h36 := (congrFun hk31 _).symm.trans h36p
 refine nt (qs (qr (oN 1 [(4, vb true)] [] ?_)))
 refine oe (nt (qe ?_))
 obtain rfl := sI h36
 exact re [.bool true]

theorem c_laws_FnExactAmountIn {W : World} {x0 : List ByteArray} {a0_0 : Option Addr} {c0_0 : Nat} {r : Bool} (h : laws_FnExactAmountIn x0 = some r) (hV : VarsAt W) (hv0_0 : SlView W x0 a0_0 c0_0) :
    Gives0 Tryd.prog 3 #[.slice a0_0 x0.length c0_0] W (.bool r) := by
 unfold laws_FnExactAmountIn at h
 refine en Tryd.func3 Tryd.ntmps3 ?_
 refine qs (qr (oN 1 [] [0] ?_))
 refine oe (nt (qs (qr (oN 1 [(3, vi 1048576)] [0] ?_))))
 refine oe (nt (qs (qr (oN 2 [(8, vi 1048576), (7, .v (.slice a0_0 x0.length c0_0))] [0] ?_))))
 obtain ⟨t21, h22, h23⟩ := bS h
 refine k0 (fun γ w hs => c_laws_szStringS h22 (hv0_0.kept hs.kept)) ?_
 refine oN 1 [(3, vi t21)] [0] ?_
 refine oe (nt (qs (qs (qr (oN 2 [(11, vb (decide (t21 < 0)))] [0] ?_)))))
 refine oe (nt (cC h23 (fun h26 => ?_) (fun h27 => ?_)))
 · refine qs (qr (oN 1 [(2, vb true)] [] ?_))
   refine oe (nt (qe (nr ?_)))
   obtain rfl := sI h26
   exact re [.bool true]
 refine qk (nt (qs (qr (oN 1 [(12, .v (.slice a0_0 x0.length c0_0))] [0] ?_))))
 obtain ⟨t28, h29, h30⟩ := bS h27
 refine k1 (fun γ w hs => c_laws_toStringS h29 (hv0_0.kept hs.kept)) (fun y31 => ?_)
 obtain ⟨t32, h33, h34⟩ := bS h30
 refine k0 (fun γ w hs => c_spec_AmountIn h33 (hs.view 0 rfl)) ?_
 refine oN 1 [(4, vi t32)] [0] ?_
 refine oe (nt (qs (qr (oN 1 [(15, .v (.slice a0_0 x0.length c0_0))] [4, 0] ?_))))
 obtain ⟨t36, h37, h38⟩ := bS h34
 refine k1 (fun γ w hs => c_laws_toStringS h37 (hv0_0.kept hs.kept)) (fun y39 => ?_)
 refine oN 1 [(5, .v (.slice y39.1 t36.length y39.2))] [4, 0] ?_
 refine oe (nt (qs (qr (oN 1 [(17, .v (.slice y39.1 t36.length y39.2))] [5, 4, 0] ?_))))
 obtain ⟨t40, h41, h42⟩ := bS h38
 refine k0 (fun γ w hs => c_impl_AmountIn h41 (hV.kept hs.kept) (hs.view 0 rfl)) ?_
 refine oN 1 [(6, vi t40)] [5, 4, 0] ?_
 refine oe (nt (qs (qs (qr (oN 3 [(21, vb (t40 != t32))] [5, 0] ?_)))))
 refine oe (nt (cC h42 (fun h45 => ?_) (fun h46 => ?_)))
 · refine qs (qr (oN 1 [(2, vb false)] [] ?_))
   refine oe (nt (qe (nr ?_)))
   obtain rfl := sI h45
   exact re [.bool false]
 refine qk (nt (qs (qs (qr (oN 2 [(23, .v (.slice a0_0 x0.length c0_0)), (22, .v (.slice y39.1 t36.length y39.2))] [] ?_)))))
 obtain ⟨t47, h48, h49⟩ := bS h46
 refine k1 (fun γ w hs => c_laws_toStringS h48 (hv0_0.kept hs.kept)) (fun y50 => ?_)
 obtain ⟨t51, h52, h53⟩ := bS h49
 refine k0 (fun γ w hs => c_laws_eqStringS h52 (hs.view 1 rfl) (hs.view 0 rfl)) ?_
 refine oN 1 [(26, vb (!t51))] [] ?_
 refine oe (nt (cC h53 (fun h56 => ?_) (fun h57 => ?_)))
 · refine qs (qr (oN 1 [(2, vb false)] [] ?_))
   refine oe (nt (qe (nr ?_)))
   obtain rfl := sI h56
   exact re [.bool false]
 refine qk (nt (qs (qr (oN 1 [(2, vb true)] [] ?_))))
 refine oe (nt (qe ?_))
 obtain rfl := sI h57
 exact re [.bool true]
end Go.Pen
