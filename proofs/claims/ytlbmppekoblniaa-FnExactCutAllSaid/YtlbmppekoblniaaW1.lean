/-
  Each Go function does what its plain function says: written by a program of ours.
-/
import Derived.Test.YtlbmppekoblniaaF
import Derived.Test.YtlbmppekoblniaaProg
import Derived.Test.YtlbmppekoblniaaPenK
import Derived.Test.YtlbmppekoblniaaPenJ
import Derived.Test.YtlbmppekoblniaaPenM
namespace Go.Pen
open Go.Proofs Go.RowKit
set_option linter.unusedVariables false
set_option linter.unusedSimpArgs false
set_option maxRecDepth 100000
set_option maxHeartbeats 4000000

theorem c_laws_toIntS {W : World} {x0 : List Int} {a0_0 : Option Addr} {c0_0 : Nat} {r : (List Int)} (h : laws_toIntS x0 = some r) (hv0_0 : SlView W x0 a0_0 c0_0) :
    Gives Try.prog 8 #[.slice a0_0 x0.length c0_0] W (fun y : AC => .slice y.1 r.length y.2) (fun y => [SlRes 3 r y.1 y.2]) := by
 unfold laws_toIntS at h
 refine en Try.func8 Try.ntmps8 ?_
 refine qs (qr (oN 1 [] [0] ?_))
 refine oe (nt (qs (qr (oN 2 [(6, vi (x0.length : Int))] [0] ?_))))
 obtain ⟨l22, hm23, h24⟩ := bS h
 refine JO_make (α := Int) rfl (by kernel_rfl) (t := 22) (e := 3) (m := (x0.length : Int)) (by kernel_rfl) (i := Try.t3) (by kernel_rfl) (z := (.int .i64 0)) (by kernel_rfl) (by kernel_rfl) (by kernel_rfl) (by kernel_rfl) (fun w => ⟨rfl, rfl⟩) hm23 _ (fun _ => rfl) (fun y21 => ?_)
 refine oN 1 [(3, .v (.slice y21.1 l22.length y21.2))] [0] ?_
 refine oe (nt (qs (qs (qr (oN 1 [(4, vi 0)] [3, 0] ?_)))))
 refine oe (nt ?_)
 obtain ⟨r28, hL29, h30⟩ := bS h24
 obtain ⟨k31, hk32, h30⟩ := brkS h30
 refine JC_cutP (τ := ((List Int)) × (Unit)) (fun y => k31 y.1 = some r) (fun y36 => [(3, .v (.slice y21.1 y36.1.length y21.2))]) (fun y36 => []) (fun y36 => [SlRes 3 y36.1 y21.1 y21.2]) ?_ (fun y36 h37p => ?_)
 · refine qb (lp Unit hL29 (fun s25 y26 => [(4, vi s25.1), (3, .v (.slice y21.1 s25.2.length y21.2)), (0, .v (.slice a0_0 x0.length c0_0))]) (fun s25 y26 => []) (fun s25 y26 => [SlRes 3 s25.2 y21.1 y21.2]) () [4, 3, 0] [0] 0 (fun s25 y26 t27 h33 hd34 => ?_))
   refine qs (qs (qr (oN 4 [(11, vb (decide (s25.1 < (x0.length : Int))))] [4, 3, 0] ?_)))
   refine oe (nt (cC h33 (fun h39 => ?_) (fun h40 => ?_)))
   · refine qk (nt (qs (qb (qr (oN 4 [(17, vi s25.1), (16, .v (.slice a0_0 x0.length c0_0)), (15, vi s25.1), (14, .v (.slice y21.1 s25.2.length y21.2))] [4, 3, 0] ?_)))))
     obtain ⟨x41, hx42, h43⟩ := bS h39
     refine oi 1 (fun γ w hs => (hv0_0.kept hs.kept)) hx42 ?_
     refine ol 3 0 (.int .i64 x41) (fun γ w hs => (hv0_0.kept hs.kept).flatq hx42) ?_
     obtain ⟨x44, hx45, h46⟩ := bS h43
     refine oi 1 (fun γ w hs => (hs.view 0 rfl)) hx45 ?_
     obtain ⟨l47, hm48, h49⟩ := bS h46
     replace hm48 := (sI hm48).symm
     refine JO_storeq (α := Int) (d := y21.1) (vs := [.int .i64 x41]) (j := s25.1) (x' := x41) rfl (by kernel_rfl) 0 (by kernel_rfl) hx45 (Rc := []) (Rr := []) rfl (by kernel_rfl) (fun w c F Fs ho _ _ => own_flat_set (by kernel_rfl) ho) hm48 rfl ?_
     have hl50 := len_set hm48
     refine JO_keep [19, 18, 17, 16, 15, 14, 4, 3, 0] (sl' := [(19, vi x41), (18, .q a0_0 (Int.toNat s25.1 * 1)), (17, vi s25.1), (16, .v (.slice a0_0 x0.length c0_0)), (15, vi s25.1), (14, .v (.slice y21.1 s25.2.length y21.2)), (4, vi s25.1), (3, .v (.slice y21.1 s25.2.length y21.2)), (0, .v (.slice a0_0 x0.length c0_0))]) (by kernel_rfl) ?_
     refine JO_eqE (sl' := [(19, vi x41), (18, .q a0_0 (Int.toNat s25.1 * 1)), (17, vi s25.1), (16, .v (.slice a0_0 x0.length c0_0)), (15, vi s25.1), (14, .v (.slice y21.1 l47.length y21.2)), (4, vi s25.1), (3, .v (.slice y21.1 l47.length y21.2)), (0, .v (.slice a0_0 x0.length c0_0))]) (bx' := []) (by simp only [hl50]) rfl ?_
     refine oe (bn (nt (qr (oN 3 [(4, vi (w64 (s25.1 + 1)))] [3, 0] ?_))))
     exact oe (ct h49 () [4, 3, 0] [0] 0)
   refine qx (nx (nx (bh ?_)))
   have h51 := leafB hd34 h40 h30
   exact mp (s25.2, ()) h51 [3] [0] 0
 have h37 := (congrFun hk32 _).symm.trans h37p
 refine nt (qs (qr (oN 2 [(2, .v (.slice y21.1 y36.1.length y21.2))] [] ?_)))
 refine oe (nt (qe (rt [.slice y21.1 y36.1.length y21.2] (fun γ w hs => ?_))))
 rw [← sI h37]
 exact ⟨y21, rfl, hs.kept.toBelow, (hs.takeR (is := [0]) rfl).fresh⟩

theorem c_spec_l01In {W : World} {x0 : Int} {x1 : Int} {x2 : Int} {r : Bool} (h : spec_l01In x0 x1 x2 = some r)  :
    Gives0 Try.prog 29 #[.int .i64 x0, .int .i64 x1, .int .i64 x2] W (.bool r) := by
 unfold spec_l01In at h
 refine en Try.func29 Try.ntmps29 ?_
 refine qs (qr (oN 1 [] [0, 1, 2] ?_))
 refine oe (nt (qs ?_))
 obtain ⟨p21, hE22, h23⟩ := bS h
 refine JC_cut (τ := Unit) (fun _ => [(6, vb p21)]) (fun _ => []) (fun _ => []) ?_ (fun _ => ?_)
 · refine qr (oN 4 [(10, vb (decide (x0 ≥ x1)))] [0, 2] ?_)
   refine oS 10 hE22 (fun h25 => ?_) (fun h26 => ?_)
   · refine oN 5 [(6, vb (decide (x0 ≤ x2)))] [] ?_
     refine oe ?_
     obtain rfl := sI h25
     exact mt () [6] [] 0
   refine oN 5 [(6, vb false)] [] ?_
   refine oe ?_
   obtain rfl := sI h26
   exact mt () [6] [] 0
 refine nt (qe ?_)
 obtain rfl := sI h23
 exact re [.bool p21]

theorem c_spec_l31Ask {W : World} {x0 : List Int} {a0_0 : Option Addr} {c0_0 : Nat} {x1 : Int} {r : Bool} (h : spec_l31Ask x0 x1 = some r) (hv0_0 : SlView W x0 a0_0 c0_0) :
    Gives0 Try.prog 21 #[.slice a0_0 x0.length c0_0, .int .i64 x1] W (.bool r) := by
 unfold spec_l31Ask at h
 refine en Try.func21 Try.ntmps21 ?_
 refine qs (qr (oN 1 [] [0, 1] ?_))
 refine oe (nt (qs (qs (qr (oN 1 [(5, vi 0)] [0, 1] ?_)))))
 refine oe (nt ?_)
 obtain ⟨r24, hL25, h26⟩ := bS h
 obtain ⟨k27, hk28, h26⟩ := brkS h26
 refine JC_cutP (τ := (Int) × (Unit)) (fun y => k27 y.1 = some r) (fun y32 => [(0, .v (.slice a0_0 x0.length c0_0)), (1, vi y32.1)]) (fun y32 => []) (fun y32 => []) ?_ (fun y32 h33p => ?_)
 · refine qb (lp Unit hL25 (fun s21 y22 => [(5, vi s21), (0, .v (.slice a0_0 x0.length c0_0)), (1, vi x1)]) (fun s21 y22 => []) (fun s21 y22 => []) () [5, 0, 1] [] 0 (fun s21 y22 t23 h29 hd30 => ?_))
   refine qs (qs (qr (oN 4 [(9, vb (decide (s21 < (x0.length : Int))))] [5, 0, 1] ?_)))
   refine oe (nt (cC h29 (fun h45 => ?_) (fun h46 => ?_)))
   · refine qk (nt (qs (qb (qs (qr (oN 2 [(13, vi s21), (12, .v (.slice a0_0 x0.length c0_0))] [5, 0, 1] ?_))))))
     obtain ⟨x47, hx48, h49⟩ := bS h45
     refine oi 1 (fun γ w hs => (hv0_0.kept hs.kept)) hx48 ?_
     refine ol 3 0 (.int .i64 x47) (fun γ w hs => (hv0_0.kept hs.kept).flatq hx48) ?_
     obtain ⟨t50, h51, h52⟩ := bS h49
     refine k0 (fun γ w hs => c_spec_l01In h51) ?_
     refine oN 1 [(17, vb (!t50))] [5, 0, 1] ?_
     refine oe (nt (cC h52 (fun h55 => ?_) (fun h56 => ?_)))
     · refine qs (qr (oN 1 [(4, vb false)] [] ?_))
       refine oe (nt (qe (br (nr (nr ?_)))))
       have h57 := leafR hd30 h55 h26
       refine br (nr (nr ?_))
       obtain rfl := sI h57
       exact re [.bool false]
     refine qk (bn (nt (qr (oN 3 [(5, vi (w64 (s21 + 1)))] [0, 1] ?_))))
     exact oe (ct h56 () [5, 0, 1] [] 0)
   refine qx (nx (nx (bh ?_)))
   have h58 := leafB hd30 h46 h26
   exact mp (x1, ()) h58 [0, 1] [] 0
 have h33 := (congrFun hk28 _).symm.trans h33p
 refine nt (qs ?_)
 obtain ⟨p34, hE35, h36⟩ := bS h33
 refine JC_cut (τ := Unit) (fun _ => [(4, vb p34)]) (fun _ => []) (fun _ => []) ?_ (fun _ => ?_)
 · refine qr (oN 4 [(21, vb (decide ((x0.length : Int) ≤ 40)))] [1] ?_)
   refine oS 21 hE35 (fun h38 => ?_) (fun h39 => ?_)
   · refine oN 1 [(22, vi y32.1)] [21] ?_
     obtain ⟨t40, h41, h42⟩ := bS h38
     refine k0 (fun γ w hs => c_spec_l01In h41) ?_
     refine oN 2 [(4, vb t40)] [] ?_
     refine oe ?_
     obtain rfl := sI h42
     exact mt () [4] [] 0
   refine oN 4 [(4, vb false)] [] ?_
   refine oe ?_
   obtain rfl := sI h39
   exact mt () [4] [] 0
 refine nt (qe ?_)
 obtain rfl := sI h36
 exact re [.bool p34]

theorem c_spec_l31Sum {W : World} {x0 : List Int} {a0_0 : Option Addr} {c0_0 : Nat} {r : Int} (h : spec_l31Sum x0 = some r) (hv0_0 : SlView W x0 a0_0 c0_0) :
    Gives0 Try.prog 23 #[.slice a0_0 x0.length c0_0] W (.int .i64 r) := by
 unfold spec_l31Sum at h
 refine en Try.func23 Try.ntmps23 ?_
 refine qs (qr (oN 1 [] [0] ?_))
 refine oe (nt (qs (qr (oN 1 [(3, vi 0)] [0] ?_))))
 refine oe (nt (qs (qs (qr (oN 1 [(4, vi 0)] [3, 0] ?_)))))
 refine oe (nt ?_)
 obtain ⟨r24, hL25, h26⟩ := bS h
 obtain ⟨k27, hk28, h26⟩ := brkS h26
 refine JC_cutP (τ := (Int) × (Unit)) (fun y => k27 y.1 = some r) (fun y32 => [(3, vi y32.1)]) (fun y32 => []) (fun y32 => []) ?_ (fun y32 h33p => ?_)
 · refine qb (lp Unit hL25 (fun s21 y22 => [(4, vi s21.1), (3, vi s21.2), (0, .v (.slice a0_0 x0.length c0_0))]) (fun s21 y22 => []) (fun s21 y22 => []) () [4, 3, 0] [] 0 (fun s21 y22 t23 h29 hd30 => ?_))
   refine qs (qs (qr (oN 4 [(8, vb (decide (s21.1 < (x0.length : Int))))] [4, 3, 0] ?_)))
   refine oe (nt (cC h29 (fun h35 => ?_) (fun h36 => ?_)))
   · refine qk (nt (qs (qb (qr (oN 3 [(13, vi s21.1), (12, .v (.slice a0_0 x0.length c0_0)), (11, vi s21.2)] [4, 0] ?_)))))
     obtain ⟨x37, hx38, h39⟩ := bS h35
     refine oi 1 (fun γ w hs => (hv0_0.kept hs.kept)) hx38 ?_
     refine ol 3 0 (.int .i64 x37) (fun γ w hs => (hv0_0.kept hs.kept).flatq hx38) ?_
     refine oN 2 [(3, vi (w64 (s21.2 + x37)))] [4, 0] ?_
     refine oe (bn (nt (qr (oN 3 [(4, vi (w64 (s21.1 + 1)))] [3, 0] ?_))))
     exact oe (ct h39 () [4, 3, 0] [] 0)
   refine qx (nx (nx (bh ?_)))
   have h40 := leafB hd30 h36 h26
   exact mp (s21.2, ()) h40 [3] [] 0
 have h33 := (congrFun hk28 _).symm.trans h33p
 refine nt (qs (qr (oN 2 [(2, vi y32.1)] [] ?_)))
 refine oe (nt (qe ?_))
 obtain rfl := sI h33
 exact re [.int .i64 y32.1]

theorem c_spec_Allocate {W : World} {x0 : Int} {x1 : List Int} {a1_0 : Option Addr} {c1_0 : Nat} {r : (List Int)} (h : spec_Allocate x0 x1 = some r) (hv1_0 : SlView W x1 a1_0 c1_0) :
    Gives Try.prog 22 #[.int .i64 x0, .slice a1_0 x1.length c1_0] W (fun y : AC => .slice y.1 r.length y.2) (fun y => [SlRes 3 r y.1 y.2]) := by
 unfold spec_Allocate at h
 refine en Try.func22 Try.ntmps22 ?_
 refine qs (qr (oN 1 [] [0, 1] ?_))
 refine oe (nt (qs (qr (ob [] [] 3 0 [] ([] : List Int) (own_flat (by kernel_rfl)) (fun y21 => ?_)))))
 refine oN 1 [(5, .v (.slice y21.1 ([] : List Int).length y21.2))] [0, 1] ?_
 refine oe (nt (qs (qr (oN 1 [(6, vi 0)] [5, 0, 1] ?_))))
 refine oe (nt (qs (qs ?_)))
 obtain ⟨p23, hE24, h25⟩ := bS h
 refine JC_cut (τ := Unit) (fun _ => [(0, vi x0), (1, .v (.slice a1_0 x1.length c1_0)), (5, .v (.slice y21.1 ([] : List Int).length y21.2)), (6, vi 0), (23, vb p23)]) (fun _ => []) (fun _ => [SlRes 3 ([] : List Int) y21.1 y21.2]) ?_ (fun _ => ?_)
 · refine qr (oN 1 [(15, vi x0)] [6, 5, 0, 1] ?_)
   obtain ⟨t26, h27, h28⟩ := bS hE24
   refine k0 (fun γ w hs => c_spec_l01In h27) ?_
   refine oN 2 [(18, vb (!t26))] [6, 5, 0, 1] ?_
   refine oS 18 h28 (fun h31 => ?_) (fun h32 => ?_)
   · refine oN 5 [(23, vb true)] [6, 5, 0, 1] ?_
     refine oe ?_
     obtain rfl := sI h31
     exact mt () [0, 1, 5, 6, 23] [0] 0
   refine oN 2 [(20, vi (x1.length : Int))] [18, 6, 5, 0, 1] ?_
   obtain ⟨t33, h34, h35⟩ := bS h32
   refine k0 (fun γ w hs => c_spec_l01In h34) ?_
   refine oN 2 [(23, vb (!t33))] [6, 5, 0, 1] ?_
   refine oe ?_
   obtain rfl := sI h35
   exact mt () [0, 1, 5, 6, 23] [0] 0
 refine nt (cC h25 (fun h38 => ?_) (fun h39 => ?_))
 · refine qs (qr (oN 2 [(4, .v (.slice y21.1 ([] : List Int).length y21.2))] [] ?_))
   refine oe (nt (qe (nr (rt [.slice y21.1 ([] : List Int).length y21.2] (fun γ w hs => ?_)))))
   rw [← sI h38]
   exact ⟨y21, rfl, hs.kept.toBelow, (hs.takeR (is := [0]) rfl).fresh⟩
 refine qk (nt (qs (qs (qr (oN 1 [(7, vi 0)] [0, 1, 5, 6] ?_)))))
 refine oe (nt ?_)
 obtain ⟨r43, hL44, h45⟩ := bS h39
 obtain ⟨k46, hk47, h45⟩ := brkS h45
 refine JC_cutP (τ := (Int × Int) × (Unit)) (fun y => k46 y.1 = some r) (fun y51 => [(0, vi y51.1.1), (1, .v (.slice a1_0 x1.length c1_0)), (5, .v (.slice y21.1 ([] : List Int).length y21.2)), (6, vi y51.1.2)]) (fun y51 => []) (fun y51 => [SlRes 3 ([] : List Int) y21.1 y21.2]) ?_ (fun y51 h52p => ?_)
 · refine qb (lp Unit hL44 (fun s40 y41 => [(7, vi s40.1), (0, vi x0), (1, .v (.slice a1_0 x1.length c1_0)), (5, .v (.slice y21.1 ([] : List Int).length y21.2)), (6, vi s40.2)]) (fun s40 y41 => []) (fun s40 y41 => [SlRes 3 ([] : List Int) y21.1 y21.2]) () [7, 0, 1, 5, 6] [0] 0 (fun s40 y41 t42 h48 hd49 => ?_))
   refine qs (qs (qr (oN 4 [(28, vb (decide (s40.1 < (x1.length : Int))))] [7, 0, 1, 5, 6] ?_)))
   refine oe (nt (cC h48 (fun h167 => ?_) (fun h168 => ?_)))
   · refine qk (nt (qs (qb (qs (qs (qr (oN 2 [(32, vi s40.1), (31, .v (.slice a1_0 x1.length c1_0))] [7, 0, 1, 5, 6] ?_)))))))
     obtain ⟨x169, hx170, h171⟩ := bS h167
     refine oi 1 (fun γ w hs => (hv1_0.kept hs.kept)) hx170 ?_
     refine ol 3 0 (.int .i64 x169) (fun γ w hs => (hv1_0.kept hs.kept).flatq hx170) ?_
     obtain ⟨t172, h173, h174⟩ := bS h171
     refine k0 (fun γ w hs => c_spec_l01In h173) ?_
     refine oN 1 [(36, vb (!t172))] [7, 0, 1, 5, 6] ?_
     refine oe (nt (cC h174 (fun h177 => ?_) (fun h178 => ?_)))
     · refine qs (qr (oN 2 [(4, .v (.slice y21.1 ([] : List Int).length y21.2))] [] ?_))
       refine oe (nt (qe (nr (br (nr (nr ?_))))))
       have h179 := leafR hd49 h177 h45
       refine br (nr (nr (rt [.slice y21.1 ([] : List Int).length y21.2] (fun γ w hs => ?_))))
       rw [← sI h179]
       exact ⟨y21, rfl, hs.kept.toBelow, (hs.takeR (is := [0]) rfl).fresh⟩
     refine qk (nt (qr (oN 3 [(40, vi s40.1), (39, .v (.slice a1_0 x1.length c1_0)), (38, vi s40.2)] [7, 0, 1, 5] ?_)))
     obtain ⟨x180, hx181, h182⟩ := bS h178
     refine oi 1 (fun γ w hs => (hv1_0.kept hs.kept)) hx181 ?_
     refine ol 3 0 (.int .i64 x180) (fun γ w hs => (hv1_0.kept hs.kept).flatq hx181) ?_
     refine oN 2 [(6, vi (w64 (s40.2 + x180)))] [7, 0, 1, 5] ?_
     refine oe (bn (nt (qr (oN 3 [(7, vi (w64 (s40.1 + 1)))] [6, 0, 1, 5] ?_))))
     exact oe (ct h182 () [7, 0, 1, 5, 6] [0] 0)
   refine qx (nx (nx (bh ?_)))
   have h183 := leafB hd49 h168 h45
   exact mp ((x0, s40.2), ()) h183 [0, 1, 5, 6] [0] 0
 have h52 := (congrFun hk47 _).symm.trans h52p
 refine nt (qs (qs (qr (oN 2 [(45, vb (y51.1.2 == 0))] [0, 1, 5, 6] ?_))))
 refine oe (nt (cC h52 (fun h54 => ?_) (fun h55 => ?_)))
 · refine qs (qr (oN 2 [(4, .v (.slice y21.1 ([] : List Int).length y21.2))] [] ?_))
   refine oe (nt (qe (nr (rt [.slice y21.1 ([] : List Int).length y21.2] (fun γ w hs => ?_)))))
   rw [← sI h54]
   exact ⟨y21, rfl, hs.kept.toBelow, (hs.takeR (is := [0]) rfl).fresh⟩
 refine qk (nt (qs (qr (oN 2 [(8, vi y51.1.1)] [0, 1, 5, 6] ?_))))
 refine oe (nt (qs (qr (ob [] [SlRes 3 ([] : List Int) y21.1 y21.2] 3 0 [] ([] : List Int) (own_flat (by kernel_rfl)) (fun y56 => ?_)))))
 refine oN 1 [(9, .v (.slice y56.1 ([] : List Int).length y56.2))] [8, 0, 1, 5, 6] ?_
 refine oe (nt (qs (qs (qr (oN 1 [(10, vi 0)] [9, 8, 0, 1, 5, 6] ?_)))))
 refine oe (nt ?_)
 obtain ⟨r61, hL62, h63⟩ := bS h55
 obtain ⟨k64, hk65, h63⟩ := brkS h63
 refine JC_cutP (τ := ((List Int) × Int × (List Int)) × (AC × AC)) (fun y => k64 y.1 = some r) (fun y69 => [(9, .v (.slice y69.2.1.1 y69.1.1.length y69.2.1.2)), (8, vi y69.1.2.1), (5, .v (.slice y69.2.2.1 y69.1.2.2.length y69.2.2.2))]) (fun y69 => []) (fun y69 => [SlRes 3 y69.1.1 y69.2.1.1 y69.2.1.2, SlRes 3 y69.1.2.2 y69.2.2.1 y69.2.2.2]) ?_ (fun y69 h70p => ?_)
 · refine qb (lp (AC × AC) hL62 (fun s58 y59 => [(10, vi s58.1), (9, .v (.slice y59.1.1 s58.2.1.length y59.1.2)), (8, vi s58.2.2.1), (0, vi y51.1.1), (1, .v (.slice a1_0 x1.length c1_0)), (5, .v (.slice y59.2.1 s58.2.2.2.length y59.2.2)), (6, vi y51.1.2)]) (fun s58 y59 => []) (fun s58 y59 => [SlRes 3 s58.2.1 y59.1.1 y59.1.2, SlRes 3 s58.2.2.2 y59.2.1 y59.2.2]) ((y56.1, y56.2), (y21.1, y21.2)) [10, 9, 8, 0, 1, 5, 6] [0, 0] 0 (fun s58 y59 t60 h66 hd67 => ?_))
   refine qs (qs (qr (oN 4 [(52, vb (decide (s58.1 < (x1.length : Int))))] [10, 9, 8, 0, 1, 5, 6] ?_)))
   refine oe (nt (cC h66 (fun h139 => ?_) (fun h140 => ?_)))
   · refine qk (nt (qs (qb (qs (qr (oN 3 [(57, vi s58.1), (56, .v (.slice a1_0 x1.length c1_0)), (55, vi y51.1.1)] [10, 9, 8, 0, 1, 5, 6] ?_))))))
     obtain ⟨x141, hx142, h143⟩ := bS h139
     refine oi 1 (fun γ w hs => (hv1_0.kept hs.kept)) hx142 ?_
     refine ol 3 0 (.int .i64 x141) (fun γ w hs => (hv1_0.kept hs.kept).flatq hx142) ?_
     refine oN 2 [(11, vi (w64 (y51.1.1 * x141)))] [10, 9, 8, 0, 1, 5, 6] ?_
     refine oe (nt (qs (qr (oN 3 [(63, vi y51.1.2), (62, vi (w64 (y51.1.1 * x141))), (61, .v (.slice y59.2.1 s58.2.2.2.length y59.2.2))] [11, 10, 9, 8, 0, 1, 6] ?_))))
     obtain ⟨u146, hz145, h144⟩ := bS h143
     refine JO_div rfl (by kernel_rfl) (op := .quo) (k := .i64) (x := (w64 (y51.1.1 * x141))) (y := y51.1.2) (by kernel_rfl) (nz_some hz145) rfl ?_
     refine ob [] [SlRes 3 s58.2.1 y59.1.1 y59.1.2, SlRes 3 s58.2.2.2 y59.2.1 y59.2.2] 3 1 [.int .i64 (w64 (Int.tdiv (w64 (y51.1.1 * x141)) y51.1.2))] ([w64 (Int.tdiv (w64 (y51.1.1 * x141)) y51.1.2)] : List Int) (own_flat (by kernel_rfl)) (fun y147 => ?_)
     refine or_ [2, 0, 0] ?_
     obtain ⟨l150, hm151, h152⟩ := bS h144
     refine oa 22 y147.2 Try.t3 (.int .i64 0) (fun γ w hs => ⟨y147.2, (hs.view 1 rfl)⟩) hm151 (fun y149 => ?_)
     refine oN 1 [(5, .v (.slice y149.1 l150.length y149.2))] [11, 10, 9, 8, 0, 1, 6] ?_
     refine oe (nt (qs (qr (oN 3 [(69, vi y51.1.2), (68, vi (w64 (y51.1.1 * x141))), (67, .v (.slice y59.1.1 s58.2.1.length y59.1.2))] [5, 11, 10, 8, 0, 1, 6] ?_))))
     obtain ⟨u155, hz154, h153⟩ := bS h152
     refine JO_div rfl (by kernel_rfl) (op := .rem) (k := .i64) (x := (w64 (y51.1.1 * x141))) (y := y51.1.2) (by kernel_rfl) (nz_some hz154) rfl ?_
     refine ob [] [SlRes 3 l150 y149.1 y149.2, SlRes 3 ([w64 (Int.tdiv (w64 (y51.1.1 * x141)) y51.1.2)] : List Int) y147.1 y147.2, SlRes 3 s58.2.1 y59.1.1 y59.1.2] 3 1 [.int .i64 (Int.tmod (w64 (y51.1.1 * x141)) y51.1.2)] ([Int.tmod (w64 (y51.1.1 * x141)) y51.1.2] : List Int) (own_flat (by kernel_rfl)) (fun y156 => ?_)
     refine or_ [3, 0, 0, 0] ?_
     obtain ⟨l159, hm160, h161⟩ := bS h153
     refine oa 22 y156.2 Try.t3 (.int .i64 0) (fun γ w hs => ⟨y156.2, (hs.view 1 rfl)⟩) hm160 (fun y158 => ?_)
     refine oN 1 [(9, .v (.slice y158.1 l159.length y158.2))] [5, 11, 10, 8, 0, 1, 6] ?_
     refine oe (nt (qr (oN 3 [(75, vi y51.1.2), (74, vi (w64 (y51.1.1 * x141))), (73, vi s58.2.2.1)] [9, 5, 10, 0, 1, 6] ?_)))
     obtain ⟨u164, hz163, h162⟩ := bS h161
     refine JO_div rfl (by kernel_rfl) (op := .quo) (k := .i64) (x := (w64 (y51.1.1 * x141))) (y := y51.1.2) (by kernel_rfl) (nz_some hz163) rfl ?_
     refine oN 2 [(8, vi (w64 (s58.2.2.1 - (w64 (Int.tdiv (w64 (y51.1.1 * x141)) y51.1.2)))))] [9, 5, 10, 0, 1, 6] ?_
     refine oe (bn (nt (qr (oN 3 [(10, vi (w64 (s58.1 + 1)))] [8, 9, 5, 0, 1, 6] ?_))))
     exact oe (ct h162 ((y158.1, y158.2), (y149.1, y149.2)) [10, 9, 8, 0, 1, 5, 6] [0, 1] 0)
   refine qx (nx (nx (bh ?_)))
   have h165 := leafB hd67 h140 h63
   exact mp ((s58.2.1, s58.2.2.1, s58.2.2.2), ((y59.1.1, y59.1.2), (y59.2.1, y59.2.2))) h165 [9, 8, 5] [0, 0] 0
 have h70 := (congrFun hk65 _).symm.trans h70p
 refine nt (qs ?_)
 obtain ⟨r74, hL75, h76⟩ := bS h70
 obtain ⟨k77, hk78, h76⟩ := brkS h76
 refine JC_cutP (τ := ((List Int)) × (Unit)) (fun y => k77 y.1 = some r) (fun y82 => [(5, .v (.slice y69.2.2.1 y82.1.length y69.2.2.2))]) (fun y82 => []) (fun y82 => [SlRes 3 y82.1 y69.2.2.1 y69.2.2.2]) ?_ (fun y82 h83p => ?_)
 · refine qb (lp Unit hL75 (fun s71 y72 => [(9, .v (.slice y69.2.1.1 s71.1.length y69.2.1.2)), (8, vi s71.2.1), (5, .v (.slice y69.2.2.1 s71.2.2.length y69.2.2.2))]) (fun s71 y72 => []) (fun s71 y72 => [SlRes 3 s71.1 y69.2.1.1 y69.2.1.2, SlRes 3 s71.2.2 y69.2.2.1 y69.2.2.2]) () [9, 8, 5] [0, 0] 0 (fun s71 y72 t73 h79 hd80 => ?_))
   refine qs (qs (qr (oN 2 [(79, vb (decide (s71.2.1 > 0)))] [9, 8, 5] ?_)))
   refine oe (nt (cC h79 (fun h85 => ?_) (fun h86 => ?_)))
   · refine qk (nt (qb (qs (qr (oN 1 [(12, vi 0)] [9, 8, 5] ?_)))))
     refine oe (nt (qs (qs (qr (oN 1 [(13, vi 1)] [12, 9, 8, 5] ?_)))))
     refine oe (nt ?_)
     obtain ⟨r90, hL91, h92⟩ := bS h85
     obtain ⟨k93, hk94, h92⟩ := brkS h92
     refine JC_cutP (τ := (Int) × (Unit)) (fun y => k93 y.1 = some t73) (fun y98 => [(12, vi y98.1), (9, .v (.slice y69.2.1.1 s71.1.length y69.2.1.2)), (8, vi s71.2.1), (5, .v (.slice y69.2.2.1 s71.2.2.length y69.2.2.2))]) (fun y98 => []) (fun y98 => [SlRes 3 s71.1 y69.2.1.1 y69.2.1.2, SlRes 3 s71.2.2 y69.2.2.1 y69.2.2.2]) ?_ (fun y98 h99p => ?_)
     · refine qb (lp Unit hL91 (fun s87 y88 => [(13, vi s87.1), (12, vi s87.2), (9, .v (.slice y69.2.1.1 s71.1.length y69.2.1.2)), (8, vi s71.2.1), (5, .v (.slice y69.2.2.1 s71.2.2.length y69.2.2.2))]) (fun s87 y88 => []) (fun s87 y88 => [SlRes 3 s71.1 y69.2.1.1 y69.2.1.2, SlRes 3 s71.2.2 y69.2.2.1 y69.2.2.2]) () [13, 12, 9, 8, 5] [0, 0] 0 (fun s87 y88 t89 h95 hd96 => ?_))
       refine qs (qs (qr (oN 4 [(83, vb (decide (s87.1 < (s71.1.length : Int))))] [13, 12, 9, 8, 5] ?_)))
       refine oe (nt (cC h95 (fun h118 => ?_) (fun h119 => ?_)))
       · refine qk (nt (qs (qb (qs (JC_quiet (by kernel_rfl) (by kernel_rfl) ?_)))))
         refine qN 2 [(87, vi s87.1), (86, .v (.slice y69.2.1.1 s71.1.length y69.2.1.2))] [13, 12, 9, 8, 5] ?_
         obtain ⟨x120, hx121, h122⟩ := bS h118
         refine qi 1 (fun γ w hs => (hs.view 0 rfl)) hx121 ?_
         refine ql 3 0 (.int .i64 x120) (fun γ w hs => (hs.view 0 rfl).flatq hx121) ?_
         refine qN 2 [(91, vi s87.2), (90, .v (.slice y69.2.1.1 s71.1.length y69.2.1.2))] [89, 13, 12, 9, 8, 5] ?_
         obtain ⟨x123, hx124, h125⟩ := bS h122
         refine qi 1 (fun γ w hs => (hs.view 0 rfl)) hx124 ?_
         refine ql 3 0 (.int .i64 x123) (fun γ w hs => (hs.view 0 rfl).flatq hx124) ?_
         refine qN 1 [(94, vb (decide (x120 > x123)))] [13, 12, 9, 8, 5] ?_
         refine qz (nt ?_)
         obtain ⟨k129, hk130, h132⟩ := jS h125
         refine JC_cutP (τ := (Int) × (Unit)) (fun y => k129 y.1 = some t89) (fun y128 => [(13, vi s87.1), (12, vi y128.1), (9, .v (.slice y69.2.1.1 s71.1.length y69.2.1.2)), (8, vi s71.2.1), (5, .v (.slice y69.2.2.1 s71.2.2.length y69.2.2.2))]) (fun y128 => []) (fun y128 => [SlRes 3 s71.1 y69.2.1.1 y69.2.1.2, SlRes 3 s71.2.2 y69.2.2.1 y69.2.2.2]) ?_ (fun y128 h131p => ?_)
         · refine cC h132 (fun h134 => ?_) (fun h135 => ?_)
           · refine qr (oN 2 [(12, vi s87.1)] [13, 9, 8, 5] ?_)
             exact oe (mp (s87.1, ()) h134 [13, 12, 9, 8, 5] [0, 0] 0)
           exact qk (mp (s87.2, ()) h135 [13, 12, 9, 8, 5] [0, 0] 0)
         have h131 := (congrFun hk130 _).symm.trans h131p
         refine bn (nt (qr (oN 3 [(13, vi (w64 (s87.1 + 1)))] [12, 9, 8, 5] ?_)))
         exact oe (ct h131 () [13, 12, 9, 8, 5] [0, 0] 0)
       refine qx (nx (nx (bh ?_)))
       have h136 := leafB hd96 h119 h92
       exact mp (s87.2, ()) h136 [12, 9, 8, 5] [0, 0] 0
     have h99 := (congrFun hk94 _).symm.trans h99p
     refine nt (qs (qr (oN 4 [(99, vi y98.1), (98, .v (.slice y69.2.2.1 s71.2.2.length y69.2.2.2)), (97, vi y98.1), (96, .v (.slice y69.2.2.1 s71.2.2.length y69.2.2.2))] [12, 9, 8, 5] ?_)))
     obtain ⟨x100, hx101, h102⟩ := bS h99
     refine oi 1 (fun γ w hs => (hs.view 1 rfl)) hx101 ?_
     refine ol 3 0 (.int .i64 x100) (fun γ w hs => (hs.view 1 rfl).flatq hx101) ?_
     refine oN 1 [(102, vi (w64 (x100 + 1)))] [97, 96, 12, 9, 8, 5] ?_
     obtain ⟨x103, hx104, h105⟩ := bS h102
     refine oi 1 (fun γ w hs => (hs.view 1 rfl)) hx104 ?_
     refine or_ [1, 0] ?_
     obtain ⟨l106, hm107, h108⟩ := bS h105
     replace hm107 := (sI hm107).symm
     refine JO_storeq (α := Int) (d := y69.2.2.1) (vs := [.int .i64 (w64 (x100 + 1))]) (j := y98.1) (x' := (w64 (x100 + 1))) rfl (by kernel_rfl) 0 (by kernel_rfl) hx104 (Rc := []) (Rr := [SlRes 3 s71.1 y69.2.1.1 y69.2.1.2]) rfl (by kernel_rfl) (fun w c F Fs ho _ _ => own_flat_set (by kernel_rfl) ho) hm107 rfl ?_
     have hl109 := len_set hm107
     refine JO_keep [102, 97, 96, 12, 9, 8, 5] (sl' := [(102, vi (w64 (x100 + 1))), (97, vi y98.1), (96, .v (.slice y69.2.2.1 s71.2.2.length y69.2.2.2)), (12, vi y98.1), (9, .v (.slice y69.2.1.1 s71.1.length y69.2.1.2)), (8, vi s71.2.1), (5, .v (.slice y69.2.2.1 s71.2.2.length y69.2.2.2))]) (by kernel_rfl) ?_
     refine JO_eqE (sl' := [(102, vi (w64 (x100 + 1))), (97, vi y98.1), (96, .v (.slice y69.2.2.1 l106.length y69.2.2.2)), (12, vi y98.1), (9, .v (.slice y69.2.1.1 s71.1.length y69.2.1.2)), (8, vi s71.2.1), (5, .v (.slice y69.2.2.1 l106.length y69.2.2.2))]) (bx' := []) (by simp only [hl109]) rfl ?_
     refine oe (nt (qs (qr (oN 2 [(105, vi y98.1), (104, .v (.slice y69.2.1.1 s71.1.length y69.2.1.2))] [9, 8, 5] ?_))))
     obtain ⟨x110, hx111, h112⟩ := bS h108
     refine oi 1 (fun γ w hs => (hs.view 1 rfl)) hx111 ?_
     refine or_ [1, 0] ?_
     obtain ⟨l113, hm114, h115⟩ := bS h112
     replace hm114 := (sI hm114).symm
     refine JO_storeq (α := Int) (d := y69.2.1.1) (vs := [.int .i64 (-1)]) (j := y98.1) (x' := (-1)) rfl (by kernel_rfl) 0 (by kernel_rfl) hx111 (Rc := []) (Rr := [SlRes 3 l106 y69.2.2.1 y69.2.2.2]) rfl (by kernel_rfl) (fun w c F Fs ho _ _ => own_flat_set (by kernel_rfl) ho) hm114 rfl ?_
     have hl116 := len_set hm114
     refine JO_keep [105, 104, 9, 8, 5] (sl' := [(105, vi y98.1), (104, .v (.slice y69.2.1.1 s71.1.length y69.2.1.2)), (9, .v (.slice y69.2.1.1 s71.1.length y69.2.1.2)), (8, vi s71.2.1), (5, .v (.slice y69.2.2.1 l106.length y69.2.2.2))]) (by kernel_rfl) ?_
     refine JO_eqE (sl' := [(105, vi y98.1), (104, .v (.slice y69.2.1.1 l113.length y69.2.1.2)), (9, .v (.slice y69.2.1.1 l113.length y69.2.1.2)), (8, vi s71.2.1), (5, .v (.slice y69.2.2.1 l106.length y69.2.2.2))]) (bx' := []) (by simp only [hl116]) rfl ?_
     refine oe (nt (qr (oN 3 [(8, vi (w64 (s71.2.1 - 1)))] [9, 5] ?_)))
     exact oe (bn (ct h115 () [9, 8, 5] [0, 0] 0))
   refine qx (nx (nx (bh ?_)))
   have h137 := leafB hd80 h86 h76
   exact mp (s71.2.2, ()) h137 [5] [1] 0
 have h83 := (congrFun hk78 _).symm.trans h83p
 refine nt (qs (qr (oN 2 [(4, .v (.slice y69.2.2.1 y82.1.length y69.2.2.2))] [] ?_)))
 refine oe (nt (qe (rt [.slice y69.2.2.1 y82.1.length y69.2.2.2] (fun γ w hs => ?_))))
 rw [← sI h83]
 exact ⟨y69.2.2, rfl, hs.kept.toBelow, (hs.takeR (is := [0]) rfl).fresh⟩

theorem c_spec_CutAll {W : World} {x0 : List Int} {a0_0 : Option Addr} {c0_0 : Nat} {x1 : Int} {r : (List Int)} (h : spec_CutAll x0 x1 = some r) (hv0_0 : SlView W x0 a0_0 c0_0) :
    Gives Try.prog 7 #[.slice a0_0 x0.length c0_0, .int .i64 x1] W (fun y : AC => .slice y.1 r.length y.2) (fun y => [SlRes 3 r y.1 y.2]) := by
 unfold spec_CutAll at h
 refine en Try.func7 Try.ntmps7 ?_
 refine qs (qr (oN 1 [] [0, 1] ?_))
 refine oe (nt (qs (qs (qr (oN 2 [(9, vi x1), (8, .v (.slice a0_0 x0.length c0_0))] [0, 1] ?_)))))
 obtain ⟨t21, h22, h23⟩ := bS h
 refine k0 (fun γ w hs => c_spec_l31Ask h22 (hv0_0.kept hs.kept)) ?_
 refine oN 1 [(11, vb (!t21))] [0, 1] ?_
 refine oe (nt (cC h23 (fun h28 => ?_) (fun h29 => ?_)))
 · refine qs (qr (ob [] [] 3 0 [] ([] : List Int) (own_flat (by kernel_rfl)) (fun y30 => ?_)))
   refine oN 1 [(4, .v (.slice y30.1 ([] : List Int).length y30.2))] [] ?_
   refine oe (nt (qe (nr (rt [.slice y30.1 ([] : List Int).length y30.2] (fun γ w hs => ?_)))))
   rw [← sI h28]
   exact ⟨y30, rfl, hs.kept.toBelow, (hs.takeR (is := [0]) rfl).fresh⟩
 refine qk (nt (qs (qr (ob [] [] 3 0 [] ([] : List Int) (own_flat (by kernel_rfl)) (fun y32 => ?_)))))
 refine oN 1 [(14, .v (.slice a0_0 x0.length c0_0))] [13, 0, 1] ?_
 obtain ⟨l35, hm36, h37⟩ := bS h29
 refine oa 22 c0_0 Try.t3 (.int .i64 0) (fun γ w hs => ⟨c0_0, (hv0_0.kept hs.kept)⟩) hm36 (fun y34 => ?_)
 refine oN 1 [(5, .v (.slice y34.1 l35.length y34.2))] [0, 1] ?_
 refine oe (nt (qs (qr (oN 1 [(16, .v (.slice a0_0 x0.length c0_0))] [5, 0, 1] ?_))))
 obtain ⟨t38, h39, h40⟩ := bS h37
 refine k0 (fun γ w hs => c_spec_l31Sum h39 (hv0_0.kept hs.kept)) ?_
 refine oN 4 [(21, .v (.slice a0_0 x0.length c0_0)), (20, vi (w64 (Int.tdiv (w64 (t38 * x1)) 1000)))] [5] ?_
 obtain ⟨t42, h43, h44⟩ := bS h40
 refine k1 (fun γ w hs => c_spec_Allocate h43 (hv0_0.kept hs.kept)) (fun y45 => ?_)
 refine oN 1 [(6, .v (.slice y45.1 t42.length y45.2))] [5] ?_
 refine oe (nt (qs (qs (qr (oN 1 [(7, vi 0)] [6, 5] ?_)))))
 refine oe (nt ?_)
 obtain ⟨r49, hL50, h51⟩ := bS h44
 obtain ⟨k52, hk53, h51⟩ := brkS h51
 refine JC_cutP (τ := ((List Int)) × (Unit)) (fun y => k52 y.1 = some r) (fun y57 => [(5, .v (.slice y34.1 y57.1.length y34.2))]) (fun y57 => []) (fun y57 => [SlRes 3 y57.1 y34.1 y34.2]) ?_ (fun y57 h58p => ?_)
 · refine qb (lp Unit hL50 (fun s46 y47 => [(7, vi s46.1), (6, .v (.slice y45.1 t42.length y45.2)), (5, .v (.slice y34.1 s46.2.length y34.2))]) (fun s46 y47 => []) (fun s46 y47 => [SlRes 3 t42 y45.1 y45.2, SlRes 3 s46.2 y34.1 y34.2]) () [7, 6, 5] [0, 0] 0 (fun s46 y47 t48 h54 hd55 => ?_))
   refine qs (qs (qr (oN 4 [(26, vb (decide (s46.1 < (t42.length : Int))))] [7, 6, 5] ?_)))
   refine oe (nt (cC h54 (fun h60 => ?_) (fun h61 => ?_)))
   · refine qk (nt (qs (qb ?_)))
     obtain ⟨x62, hx63, h64⟩ := bS h60
     obtain ⟨x65, hx66, h67⟩ := bS h64
     obtain ⟨x68, hx69, h70⟩ := bS h67
     obtain ⟨l71, hm72, h73⟩ := bS h70
     replace hm72 := (sI hm72).symm
     have hl74 := len_set hm72
     refine JC_cut (τ := Unit) (fun _ => [(7, vi s46.1), (6, .v (.slice y45.1 t42.length y45.2)), (5, .v (.slice y34.1 l71.length y34.2))]) (fun _ => []) (fun _ => [SlRes 3 t42 y45.1 y45.2, SlRes 3 l71 y34.1 y34.2]) ?_ (fun _ => ?_)
     · refine jw [7, 6, 5] [0, 0] ?_
       refine JC_heldN (ks := []) (Rk := [SlRes 3 t42 y45.1 y45.2]) 13 (by kernel_rfl) (by kernel_rfl) ?_
       refine htq 0 (.v (.slice y34.1 s46.2.length y34.2)) [0] ?_
       refine htq 1 (vi s46.1) [0] ?_
       refine htq 2 (.v (.slice y34.1 s46.2.length y34.2)) [0] ?_
       refine htq 3 (vi s46.1) [0] ?_
       refine htq 6 (.v (.slice y45.1 t42.length y45.2)) [0] ?_
       refine htq 7 (vi s46.1) [0] ?_
       refine ht 8 (.q y45.1 (Int.toNat s46.1 * 1)) [0] (index_held (d := y45.1) (m := t42.length) (j := s46.1) (s := 1) (by kernel_rfl) (fun γ0 w hs => (hs.view 0 rfl)) rfl hx66) ?_
       refine hk [37, 32, 31, 30, 29, 7, 6, 5] ?_
       refine ht 9 (vi x65) [0] (loadq_held (t := 3) (d := y45.1) (Int.toNat s46.1 * 1) 0 (by kernel_rfl) (cs := [.int .i64 x65]) (v := .int .i64 x65) (fun γ0 w hs => (hs.view 0 rfl).flatq hx66) (by kernel_rfl)) ?_
       refine hk [38, 32, 31, 30, 29, 7, 6, 5] ?_
       refine ha1 4 ?_
       refine hi (fun γ0 δ hm => ?_)
       refine JG_index (by kernel_rfl) (d := y34.1) (m := s46.2.length) (j := s46.1) (s := 1) (by kernel_rfl) (fun w hs => (hs.view 1 rfl)) rfl hx63 rfl ?_
       refine gn hm [33, 38, 30, 29, 7, 6, 5] [0] ?_
       refine ha1 5 ?_
       refine hi (fun γ0 δ hm => ?_)
       refine JG_loadq (by kernel_rfl) (t := 3) (d := y34.1) (Int.toNat s46.1 * 1) 0 (by kernel_rfl) (cs := [.int .i64 x62]) (v := .int .i64 x62) (fun w hs => (hs.view 1 rfl).flatq hx63) (by kernel_rfl) rfl ?_
       refine gn hm [34, 38, 30, 29, 7, 6, 5] [0] ?_
       refine htq 10 (vi (w64 (x62 - x65))) [0] ?_
       refine hk [39, 30, 29, 7, 6, 5] ?_
       refine ha1 11 ?_
       refine hi (fun γ0 δ hm => ?_)
       refine JG_index (by kernel_rfl) (d := y34.1) (m := s46.2.length) (j := s46.1) (s := 1) (by kernel_rfl) (fun w hs => (hs.view 1 rfl)) rfl hx69 rfl ?_
       refine gn hm [40, 39, 7, 6, 5] [0] ?_
       refine ha1 12 ?_
       refine hr_ [1, 0] ?_
       refine hi (fun γ0 δ hm => ?_)
       refine JG_storeq (α := Int) (d := y34.1) (vs := [.int .i64 (w64 (x62 - x65))]) (j := s46.1) (x' := (w64 (x62 - x65))) (by kernel_rfl) 0 (by kernel_rfl) hx69 (Rc := []) (Rr := [SlRes 3 t42 y45.1 y45.2]) rfl (by kernel_rfl) (fun w c F Fs ho _ _ => own_flat_set (by kernel_rfl) ho) hm72 (sl' := [(40, .q y34.1 (Int.toNat s46.1 * 1)), (39, vi (w64 (x62 - x65))), (7, vi s46.1), (6, .v (.slice y45.1 t42.length y45.2)), (5, .v (.slice y34.1 s46.2.length y34.2))]) (by kernel_rfl) ?_
       refine KG_eqE (sl' := [(40, .q y34.1 (Int.toNat s46.1 * 1)), (39, vi (w64 (x62 - x65))), (7, vi s46.1), (6, .v (.slice y45.1 t42.length y45.2)), (5, .v (.slice y34.1 l71.length y34.2))]) (bx' := []) (by simp only [hl74]) rfl ?_
       refine gn hm [7, 6, 5] [1] ?_
       exact hd () [7, 6, 5] [1, 0] 0
     refine bn (nt (qr (oN 3 [(7, vi (w64 (s46.1 + 1)))] [6, 5] ?_)))
     exact oe (ct h73 () [7, 6, 5] [0, 0] 0)
   refine qx (nx (nx (bh ?_)))
   have h76 := leafB hd55 h61 h51
   exact mp (s46.2, ()) h76 [5] [1] 0
 have h58 := (congrFun hk53 _).symm.trans h58p
 refine nt (qs (qr (oN 2 [(4, .v (.slice y34.1 y57.1.length y34.2))] [] ?_)))
 refine oe (nt (qe (rt [.slice y34.1 y57.1.length y34.2] (fun γ w hs => ?_))))
 rw [← sI h58]
 exact ⟨y34, rfl, hs.kept.toBelow, (hs.takeR (is := [0]) rfl).fresh⟩

theorem c_impl_within {W : World} {x0 : Int} {x1 : Int} {x2 : Int} {r : Bool} (h : impl_within x0 x1 x2 = some r)  :
    Gives0 Try.prog 25 #[.int .i64 x0, .int .i64 x1, .int .i64 x2] W (.bool r) := by
 unfold impl_within at h
 refine en Try.func25 Try.ntmps25 ?_
 refine qs (qr (oN 1 [] [0, 1, 2] ?_))
 refine oe (nt (qs ?_))
 obtain ⟨p21, hE22, h23⟩ := bS h
 refine JC_cut (τ := Unit) (fun _ => [(6, vb p21)]) (fun _ => []) (fun _ => []) ?_ (fun _ => ?_)
 · refine qr (oN 4 [(10, vb (decide (x1 ≤ x0)))] [0, 2] ?_)
   refine oS 10 hE22 (fun h25 => ?_) (fun h26 => ?_)
   · refine oN 5 [(6, vb (decide (x0 ≤ x2)))] [] ?_
     refine oe ?_
     obtain rfl := sI h25
     exact mt () [6] [] 0
   refine oN 5 [(6, vb false)] [] ?_
   refine oe ?_
   obtain rfl := sI h26
   exact mt () [6] [] 0
 refine nt (qe ?_)
 obtain rfl := sI h23
 exact re [.bool p21]

theorem c_impl_allWithin_1 {W : World} {x0 : Int} {gf_0 : Nat} {zf_0 : Int} {gf_1 : Nat} {zf_1 : Int} {r : Bool} (h : impl_allWithin_1 x0 zf_0 zf_1 = some r) (hcf_0 : CellsAt W (some ⟨gf_0, 0, none⟩) 0 [.int .i64 zf_0]) (hcf_1 : CellsAt W (some ⟨gf_1, 0, none⟩) 0 [.int .i64 zf_1]) :
    Gives0 Try.prog 39 #[.int .i64 x0, .pointer (some ⟨gf_0, 0, none⟩), .pointer (some ⟨gf_1, 0, none⟩)] W (.bool r) := by
 unfold impl_allWithin_1 at h
 refine enterD [vi x0, .q (some ⟨gf_0, 0, none⟩) (0), .q (some ⟨gf_1, 0, none⟩) (0)] (args := [.int .i64 x0, .pointer (some ⟨gf_0, 0, none⟩), .pointer (some ⟨gf_1, 0, none⟩)]) (by kernel_rfl) (by kernel_rfl) Try.func39 rfl Try.ntmps39 (by kernel_rfl) ?_
 refine qs (qr (oN 1 [] [0, 1, 2] ?_))
 refine oe (nt (qs (qr (oN 1 [(5, vi x0)] [1, 2] ?_))))
 refine ol 3 0 (.int .i64 zf_0) (fun γ w hs => ⟨by simp, hcf_0.kept hs.kept⟩) ?_
 refine ol 3 0 (.int .i64 zf_1) (fun γ w hs => ⟨by simp, hcf_1.kept hs.kept⟩) ?_
 obtain ⟨t21, h22, h23⟩ := bS h
 refine k0 (fun γ w hs => c_impl_within h22) ?_
 refine oN 2 [(4, vb (!t21))] [] ?_
 refine oe (nt (qe ?_))
 obtain rfl := sI h23
 exact re [.bool (!t21)]

theorem c_slices_IndexFunc_int__impl_allWithin_1 {W : World} {x0 : List Int} {a0_0 : Option Addr} {c0_0 : Nat} {g1_0 : Nat} {z1_0 : Int} {g1_1 : Nat} {z1_1 : Int} {r : Int} (h : slices_IndexFunc_int__impl_allWithin_1 x0 z1_0 z1_1 = some r) (hv0_0 : SlView W x0 a0_0 c0_0) (hc1_0 : CellsAt W (some ⟨g1_0, 0, none⟩) 0 [.int .i64 z1_0]) (hc1_1 : CellsAt W (some ⟨g1_1, 0, none⟩) 0 [.int .i64 z1_1]) :
    Gives0 Try.prog 42 #[.slice a0_0 x0.length c0_0, .func (.func 39) #[] #[.pointer (some ⟨g1_0, 0, none⟩), .pointer (some ⟨g1_1, 0, none⟩)]] W (.int .i64 r) := by
 unfold slices_IndexFunc_int__impl_allWithin_1 at h
 refine en Try.func42 Try.ntmps42 ?_
 refine qs (qr (oN 1 [] [0, 1] ?_))
 refine oe (nt (qs (qs (qr (oN 3 [(8, vi 0), (7, vi (x0.length : Int))] [0, 1] ?_)))))
 refine oe (nt ?_)
 obtain ⟨r24, hL25, h26⟩ := bS h
 obtain ⟨k27, hk28, h26⟩ := brkS h26
 refine JC_cutP (τ := (Unit) × (Unit)) (fun y => k27 y.1 = some r) (fun y32 => []) (fun y32 => []) (fun y32 => []) ?_ (fun y32 h33p => ?_)
 · refine qb (lp Unit hL25 (fun s21 y22 => [(8, vi s21), (7, vi (x0.length : Int)), (0, .v (.slice a0_0 x0.length c0_0)), (1, .v (.func (.func 39) #[] #[.pointer (some ⟨g1_0, 0, none⟩), .pointer (some ⟨g1_1, 0, none⟩)]))]) (fun s21 y22 => []) (fun s21 y22 => []) () [8, 7, 0, 1] [] 0 (fun s21 y22 t23 h29 hd30 => ?_))
   refine qs (qr (oN 1 [(9, vb (decide (s21 < (x0.length : Int))))] [8, 7, 0, 1] ?_))
   refine oe (nt (qs (cC h29 (fun h35 => ?_) (fun h36 => ?_))))
   · refine qk (nt (qs (qb (qs (qr (oN 2 [(5, vi s21)] [8, 7, 0, 1] ?_))))))
     refine oe (nt (qs (qr (oN 3 [(13, vi s21), (12, .v (.slice a0_0 x0.length c0_0)), (11, .v (.func (.func 39) #[] #[.pointer (some ⟨g1_0, 0, none⟩), .pointer (some ⟨g1_1, 0, none⟩)]))] [5, 8, 7, 0, 1] ?_))))
     obtain ⟨x37, hx38, h39⟩ := bS h35
     refine oi 1 (fun γ w hs => (hv0_0.kept hs.kept)) hx38 ?_
     refine ol 3 0 (.int .i64 x37) (fun γ w hs => (hv0_0.kept hs.kept).flatq hx38) ?_
     obtain ⟨t40, h41, h42⟩ := bS h39
     refine k0 (fun γ w hs => c_impl_allWithin_1 h41 (hc1_0.kept hs.kept) (hc1_1.kept hs.kept)) ?_
     refine oe (nt (cC h42 (fun h45 => ?_) (fun h46 => ?_)))
     · refine qs (qr (oN 2 [(4, vi s21)] [] ?_))
       refine oe (nt (qe (br (nr (nr ?_)))))
       have h47 := leafR hd30 h45 h26
       refine br (nr (nr ?_))
       obtain rfl := sI h47
       exact re [.int .i64 s21]
     refine qk (bn (nt (qr (oN 2 [(8, vi (w64 (s21 + 1)))] [7, 0, 1] ?_))))
     exact oe (ct h46 () [8, 7, 0, 1] [] 0)
   refine qx (nx (nx (bh ?_)))
   have h48 := leafB hd30 h36 h26
   exact mp ((), ()) h48 [] [] 0
 have h33 := (congrFun hk28 _).symm.trans h33p
 refine nt (qs (qr (oN 1 [(4, vi (-1))] [] ?_)))
 refine oe (nt (qe ?_))
 obtain rfl := sI h33
 exact re [.int .i64 (-1)]

theorem c_slices_ContainsFunc_int__impl_allWithin_1 {W : World} {x0 : List Int} {a0_0 : Option Addr} {c0_0 : Nat} {g1_0 : Nat} {z1_0 : Int} {g1_1 : Nat} {z1_1 : Int} {r : Bool} (h : slices_ContainsFunc_int__impl_allWithin_1 x0 z1_0 z1_1 = some r) (hv0_0 : SlView W x0 a0_0 c0_0) (hc1_0 : CellsAt W (some ⟨g1_0, 0, none⟩) 0 [.int .i64 z1_0]) (hc1_1 : CellsAt W (some ⟨g1_1, 0, none⟩) 0 [.int .i64 z1_1]) :
    Gives0 Try.prog 38 #[.slice a0_0 x0.length c0_0, .func (.func 39) #[] #[.pointer (some ⟨g1_0, 0, none⟩), .pointer (some ⟨g1_1, 0, none⟩)]] W (.bool r) := by
 unfold slices_ContainsFunc_int__impl_allWithin_1 at h
 refine en Try.func38 Try.ntmps38 ?_
 refine qs (qr (oN 1 [] [0, 1] ?_))
 refine oe (nt (qs (qr (oN 2 [(6, .v (.func (.func 39) #[] #[.pointer (some ⟨g1_0, 0, none⟩), .pointer (some ⟨g1_1, 0, none⟩)])), (5, .v (.slice a0_0 x0.length c0_0))] [] ?_))))
 obtain ⟨t21, h22, h23⟩ := bS h
 refine k0 (fun γ w hs => c_slices_IndexFunc_int__impl_allWithin_1 h22 (hv0_0.kept hs.kept) (hc1_0.kept hs.kept) (hc1_1.kept hs.kept)) ?_
 refine oN 2 [(4, vb (decide (t21 ≥ 0)))] [] ?_
 refine oe (nt (qe ?_))
 obtain rfl := sI h23
 exact re [.bool (decide (t21 ≥ 0))]

theorem c_impl_allWithin {W : World} {x0 : List Int} {a0_0 : Option Addr} {c0_0 : Nat} {x1 : Int} {x2 : Int} {r : Bool} (h : impl_allWithin x0 x1 x2 = some r) (hv0_0 : SlView W x0 a0_0 c0_0) :
    Gives0 Try.prog 33 #[.slice a0_0 x0.length c0_0, .int .i64 x1, .int .i64 x2] W (.bool r) := by
 unfold impl_allWithin at h
 refine en Try.func33 Try.ntmps33 ?_
 refine qs (qr (oB 3 [(5, .p 1 0), (4, .p 0 0)] [0] [(3, [.int .i64 x1]), (3, [.int .i64 x2])] ?_))
 refine oe (nt (qs (qr (oN 1 [(7, .v (.slice a0_0 x0.length c0_0))] [5, 4] ?_))))
 refine JO_mkfunc rfl (by kernel_rfl) (x := .f 39 [(0, 0), (1, 0)]) (by kernel_rfl) rfl ?_
 obtain ⟨t21, h22, h23⟩ := bS h
 refine JO_callD0 rfl (by kernel_rfl) (f := 38) (args := fun γ => #[.slice a0_0 x0.length c0_0, .func (.func 39) #[] #[.pointer (some ⟨γ.getD 0 0, 0, none⟩), .pointer (some ⟨γ.getD 1 0, 0, none⟩)]]) (fun γ => by kernel_rfl) (x := .bool t21) (fun γ w hs => (by have vv := c_slices_ContainsFunc_int__impl_allWithin_1 (W := w) h22 (hv0_0.kept hs.kept) (hs.boxCells (k := 0) (e := 3) (by kernel_rfl)) (hs.boxCells (k := 1) (e := 3) (by kernel_rfl)); exact vv)) rfl ?_
 refine oN 2 [(6, vb (!t21))] [] ?_
 refine oe (nt (qe ?_))
 obtain rfl := sI h23
 exact re [.bool (!t21)]

theorem c_impl_arePensions {W : World} {x0 : List Int} {a0_0 : Option Addr} {c0_0 : Nat} {r : Bool} (h : impl_arePensions x0 = some r) (hv0_0 : SlView W x0 a0_0 c0_0) :
    Gives0 Try.prog 24 #[.slice a0_0 x0.length c0_0] W (.bool r) := by
 unfold impl_arePensions at h
 refine en Try.func24 Try.ntmps24 ?_
 refine qs (qr (oN 1 [] [0] ?_))
 refine oe (nt (qs ?_))
 obtain ⟨p21, hE22, h23⟩ := bS h
 refine JC_cut (τ := Unit) (fun _ => [(2, vb p21)]) (fun _ => []) (fun _ => []) ?_ (fun _ => ?_)
 · refine qr (oN 4 [(6, vb (decide ((x0.length : Int) ≤ 40)))] [0] ?_)
   refine oS 6 hE22 (fun h25 => ?_) (fun h26 => ?_)
   · refine oN 1 [(7, .v (.slice a0_0 x0.length c0_0))] [6] ?_
     obtain ⟨t27, h28, h29⟩ := bS h25
     refine k0 (fun γ w hs => c_impl_allWithin h28 (hv0_0.kept hs.kept)) ?_
     refine oN 2 [(2, vb t27)] [] ?_
     refine oe ?_
     obtain rfl := sI h29
     exact mt () [2] [] 0
   refine oN 4 [(2, vb false)] [] ?_
   refine oe ?_
   obtain rfl := sI h26
   exact mt () [2] [] 0
 refine nt (qe ?_)
 obtain rfl := sI h23
 exact re [.bool p21]

theorem c_slices_Clone_int {W : World} {x0 : List Int} {a0_0 : Option Addr} {c0_0 : Nat} {r : (List Int)} (h : slices_Clone_int x0 = some r) (hv0_0 : SlView W x0 a0_0 c0_0) :
    Gives Try.prog 26 #[.slice a0_0 x0.length c0_0] W (fun y : AC => .slice y.1 r.length y.2) (fun y => [SlRes 3 r y.1 y.2]) := by
 unfold slices_Clone_int at h
 refine en Try.func26 Try.ntmps26 ?_
 refine qs (qr (oN 1 [] [0] ?_))
 refine oe (nt (qs (qs (qr (oN 1 [(3, .v (.slice a0_0 x0.length c0_0))] [0] ?_)))))
 rcases a0_0 with _ | d21
 · obtain rfl := hv0_0.nil rfl
   obtain rfl := hv0_0.nilE
   have h22 : (some ([] : List Int)) = some r := h
   refine oN 1 [(4, vb true)] [0] ?_
   refine oe (nt (JC_cond true (by kernel_rfl) (fun _ => ?_) (fun hb => by cases hb)))
   refine qs (qr (oN 1 [(2, .v (.slice none 0 0))] [] ?_))
   refine oe (nt (qe (nr (JE_addnil 3 (List.nil (α := Int)) rfl ?_))))
   refine rt [.slice none 0 0] (fun γ w hs => ?_)
   rw [← sI h22]
   exact ⟨(none, 0), rfl, hs.kept.toBelow, (hs.takeR (is := [0]) rfl).fresh⟩
 refine oN 1 [(4, vb false)] [0] ?_
 refine oe (nt (JC_cond false (by kernel_rfl) (fun hb => by cases hb) (fun _ => ?_)))
 refine qk (nt (qs (qr (ob [] [] 3 0 [] ([] : List Int) (own_flat (by kernel_rfl)) (fun y24 => ?_)))))
 refine oN 1 [(6, .v (.slice (some d21) x0.length c0_0))] [5] ?_
 obtain ⟨l27, hm28, h29⟩ := bS h
 refine oa 22 c0_0 Try.t3 (.int .i64 0) (fun γ w hs => ⟨c0_0, (hv0_0.kept hs.kept)⟩) hm28 (fun y26 => ?_)
 refine oN 1 [(2, .v (.slice y26.1 l27.length y26.2))] [] ?_
 refine oe (nt (qe (rt [.slice y26.1 l27.length y26.2] (fun γ w hs => ?_))))
 rw [← sI h29]
 exact ⟨y26, rfl, hs.kept.toBelow, (hs.takeR (is := [0]) rfl).fresh⟩

theorem c_impl_total {W : World} {x0 : List Int} {a0_0 : Option Addr} {c0_0 : Nat} {r : Int} (h : impl_total x0 = some r) (hv0_0 : SlView W x0 a0_0 c0_0) :
    Gives0 Try.prog 28 #[.slice a0_0 x0.length c0_0] W (.int .i64 r) := by
 unfold impl_total at h
 refine en Try.func28 Try.ntmps28 ?_
 refine qs (qr (oN 1 [] [0] ?_))
 refine oe (nt (qs (qr (oN 1 [(3, vi 0)] [0] ?_))))
 refine oe (nt (qs (qs (qr (oN 3 [(8, vi 0), (7, vi (x0.length : Int)), (6, .v (.slice a0_0 x0.length c0_0))] [3] ?_)))))
 refine oe (nt ?_)
 obtain ⟨r24, hL25, h26⟩ := bS h
 obtain ⟨k27, hk28, h26⟩ := brkS h26
 refine JC_cutP (τ := (Int) × (Unit)) (fun y => k27 y.1 = some r) (fun y32 => [(3, vi y32.1)]) (fun y32 => []) (fun y32 => []) ?_ (fun y32 h33p => ?_)
 · refine qb (lp Unit hL25 (fun s21 y22 => [(8, vi s21.1), (7, vi (x0.length : Int)), (6, .v (.slice a0_0 x0.length c0_0)), (3, vi s21.2)]) (fun s21 y22 => []) (fun s21 y22 => []) () [8, 7, 6, 3] [] 0 (fun s21 y22 t23 h29 hd30 => ?_))
   refine qs (qr (oN 1 [(9, vb (decide (s21.1 < (x0.length : Int))))] [8, 7, 6, 3] ?_))
   refine oe (nt (qs (cC h29 (fun h35 => ?_) (fun h36 => ?_))))
   · refine qk (nt (qs (qb (qs (qr ?_)))))
     obtain ⟨x37, hx38, h39⟩ := bS h35
     refine oi 1 (fun γ w hs => (hv0_0.kept hs.kept)) hx38 ?_
     refine ol 3 0 (.int .i64 x37) (fun γ w hs => (hv0_0.kept hs.kept).flatq hx38) ?_
     refine oN 1 [(5, vi x37)] [8, 7, 6, 3] ?_
     refine oe (nt (qr (oN 4 [(3, vi (w64 (s21.2 + x37)))] [8, 7, 6] ?_)))
     refine oe (bn (nt (qr (oN 2 [(8, vi (w64 (s21.1 + 1)))] [3, 7, 6] ?_))))
     exact oe (ct h39 () [8, 7, 6, 3] [] 0)
   refine qx (nx (nx (bh ?_)))
   have h40 := leafB hd30 h36 h26
   exact mp (s21.2, ()) h40 [3] [] 0
 have h33 := (congrFun hk28 _).symm.trans h33p
 refine nt (qs (qr (oN 2 [(2, vi y32.1)] [] ?_)))
 refine oe (nt (qe ?_))
 obtain rfl := sI h33
 exact re [.int .i64 y32.1]

theorem c_cmp_isNaN_int {W : World} {x0 : Int} {r : Bool} (h : cmp_isNaN_int x0 = some r)  :
    Gives0 Try.prog 41 #[.int .i64 x0] W (.bool r) := by
 unfold cmp_isNaN_int at h
 refine en Try.func41 Try.ntmps41 ?_
 refine qs (qr (oN 1 [] [0] ?_))
 refine oe (nt (qs (qr (oN 4 [(2, vb (x0 != x0))] [] ?_))))
 refine oe (nt (qe ?_))
 obtain rfl := sI h
 exact re [.bool (x0 != x0)]

theorem c_cmp_Compare_int {W : World} {x0 : Int} {x1 : Int} {r : Int} (h : cmp_Compare_int x0 x1 = some r)  :
    Gives0 Try.prog 36 #[.int .i64 x0, .int .i64 x1] W (.int .i64 r) := by
 unfold cmp_Compare_int at h
 refine en Try.func36 Try.ntmps36 ?_
 refine qs (qr (oN 1 [] [0, 1] ?_))
 refine oe (nt (qs (qr (oN 1 [(7, vi x0)] [0, 1] ?_))))
 obtain ⟨t21, h22, h23⟩ := bS h
 refine k0 (fun γ w hs => c_cmp_isNaN_int h22) ?_
 refine oN 1 [(5, vb t21)] [0, 1] ?_
 refine oe (nt (qs (qr (oN 1 [(9, vi x1)] [5, 0, 1] ?_))))
 obtain ⟨t25, h26, h27⟩ := bS h23
 refine k0 (fun γ w hs => c_cmp_isNaN_int h26) ?_
 refine oN 1 [(6, vb t25)] [5, 0, 1] ?_
 refine oe (nt (qs (qs (qr (oN 1 [(11, vb t21)] [6, 0, 1] ?_)))))
 refine oe (nt (cC h27 (fun h33 => ?_) (fun h34 => ?_)))
 · refine qs (qs (qr (oN 1 [(12, vb t25)] [] ?_)))
   refine oe (nt (cC h33 (fun h36 => ?_) (fun h37 => ?_)))
   · refine qs (qr (oN 1 [(4, vi 0)] [] ?_))
     refine oe (nt (qe (nr (nr ?_))))
     obtain rfl := sI h36
     exact re [.int .i64 0]
   refine qk (nt (qs (qr (oN 1 [(4, vi (-1))] [] ?_))))
   refine oe (nt (qe (nr ?_)))
   obtain rfl := sI h37
   exact re [.int .i64 (-1)]
 refine qk (nt (qs (qs (qr (oN 1 [(13, vb t25)] [0, 1] ?_)))))
 refine oe (nt (cC h34 (fun h39 => ?_) (fun h40 => ?_)))
 · refine qs (qr (oN 1 [(4, vi 1)] [] ?_))
   refine oe (nt (qe (nr ?_)))
   obtain rfl := sI h39
   exact re [.int .i64 1]
 refine qk (nt (qs (qs (qr (oN 3 [(16, vb (decide (x0 < x1)))] [0, 1] ?_)))))
 refine oe (nt (cC h40 (fun h42 => ?_) (fun h43 => ?_)))
 · refine qs (qr (oN 1 [(4, vi (-1))] [] ?_))
   refine oe (nt (qe (nr ?_)))
   obtain rfl := sI h42
   exact re [.int .i64 (-1)]
 refine qk (nt (qs (qs (qr (oN 3 [(19, vb (decide (x0 > x1)))] [] ?_)))))
 refine oe (nt (cC h43 (fun h45 => ?_) (fun h46 => ?_)))
 · refine qs (qr (oN 1 [(4, vi 1)] [] ?_))
   refine oe (nt (qe (nr ?_)))
   obtain rfl := sI h45
   exact re [.int .i64 1]
 refine qk (nt (qs (qr (oN 1 [(4, vi 0)] [] ?_))))
 refine oe (nt (qe ?_))
 obtain rfl := sI h46
 exact re [.int .i64 0]

theorem c_impl_Allocate_1 {W : World} {x0 : Int} {x1 : Int} {gf_0 : Nat} {zf_0 : Int} {gf_1 : Nat} {zf_1 : List Int} {af_1_0 : Option Addr} {cf_1_0 : Nat} {gf_2 : Nat} {zf_2 : Int} {r : Int} (h : impl_Allocate_1 x0 x1 zf_0 zf_1 zf_2 = some r) (hcf_0 : CellsAt W (some ⟨gf_0, 0, none⟩) 0 [.int .i64 zf_0]) (hvf_1_0 : SlView W zf_1 af_1_0 cf_1_0) (hcf_1 : CellsAt W (some ⟨gf_1, 0, none⟩) 0 [.slice af_1_0 zf_1.length cf_1_0]) (hcf_2 : CellsAt W (some ⟨gf_2, 0, none⟩) 0 [.int .i64 zf_2]) :
    Gives0 Try.prog 35 #[.int .i64 x0, .int .i64 x1, .pointer (some ⟨gf_0, 0, none⟩), .pointer (some ⟨gf_1, 0, none⟩), .pointer (some ⟨gf_2, 0, none⟩)] W (.int .i64 r) := by
 unfold impl_Allocate_1 at h
 refine enterD [vi x0, vi x1, .q (some ⟨gf_0, 0, none⟩) (0), .q (some ⟨gf_1, 0, none⟩) (0), .q (some ⟨gf_2, 0, none⟩) (0)] (args := [.int .i64 x0, .int .i64 x1, .pointer (some ⟨gf_0, 0, none⟩), .pointer (some ⟨gf_1, 0, none⟩), .pointer (some ⟨gf_2, 0, none⟩)]) (by kernel_rfl) (by kernel_rfl) Try.func35 rfl Try.ntmps35 (by kernel_rfl) ?_
 refine qs (qr (oN 1 [] [0, 1, 2, 3, 4] ?_))
 refine oe (nt (qs (JC_quiet (by kernel_rfl) (by kernel_rfl) ?_)))
 refine ql 3 0 (.int .i64 zf_0) (fun γ w hs => ⟨by simp, hcf_0.kept hs.kept⟩) ?_
 refine ql 22 0 (.slice af_1_0 zf_1.length cf_1_0) (fun γ w hs => ⟨by simp, hcf_1.kept hs.kept⟩) ?_
 refine qN 1 [(10, vi x1)] [9, 8, 0, 2, 3, 4] ?_
 obtain ⟨x21, hx22, h23⟩ := bS h
 refine qi 1 (fun γ w hs => (hvf_1_0.kept hs.kept)) hx22 ?_
 refine ql 3 0 (.int .i64 x21) (fun γ w hs => (hvf_1_0.kept hs.kept).flatq hx22) ?_
 refine qN 1 [(13, vi (w64 (zf_0 * x21)))] [0, 2, 3, 4] ?_
 refine ql 3 0 (.int .i64 zf_2) (fun γ w hs => ⟨by simp, hcf_2.kept hs.kept⟩) ?_
 obtain ⟨u26, hz25, h24⟩ := bS h23
 refine JQ_div rfl (by kernel_rfl) (op := .rem) (k := .i64) (x := (w64 (zf_0 * x21))) (y := zf_2) (by kernel_rfl) (nz_some hz25) rfl ?_
 refine ql 3 0 (.int .i64 zf_0) (fun γ w hs => ⟨by simp, hcf_0.kept hs.kept⟩) ?_
 refine ql 22 0 (.slice af_1_0 zf_1.length cf_1_0) (fun γ w hs => ⟨by simp, hcf_1.kept hs.kept⟩) ?_
 refine qN 1 [(18, vi x0)] [17, 16, 15, 4] ?_
 obtain ⟨x27, hx28, h29⟩ := bS h24
 refine qi 1 (fun γ w hs => (hvf_1_0.kept hs.kept)) hx28 ?_
 refine ql 3 0 (.int .i64 x27) (fun γ w hs => (hvf_1_0.kept hs.kept).flatq hx28) ?_
 refine qN 1 [(21, vi (w64 (zf_0 * x27)))] [15, 4] ?_
 refine ql 3 0 (.int .i64 zf_2) (fun γ w hs => ⟨by simp, hcf_2.kept hs.kept⟩) ?_
 obtain ⟨u32, hz31, h30⟩ := bS h29
 refine JQ_div rfl (by kernel_rfl) (op := .rem) (k := .i64) (x := (w64 (zf_0 * x27))) (y := zf_2) (by kernel_rfl) (nz_some hz31) rfl ?_
 obtain ⟨t33, h34, h35⟩ := bS h30
 refine q0 (fun γ w hs => c_cmp_Compare_int h34) ?_
 refine qN 1 [(7, vi t33)] [] ?_
 refine qz (nt (qe ?_))
 obtain rfl := sI h35
 exact re [.int .i64 t33]

theorem c_slices_insertionSortCmpFunc_int__impl_Allocate_1 {W : World} {x0 : List Int} {a0_0 : Option Addr} {c0_0 : Nat} {e0_0 : TypeId} {x1 : Int} {x2 : Int} {g3_0 : Nat} {z3_0 : Int} {g3_1 : Nat} {z3_1 : List Int} {g3_2 : Nat} {z3_2 : Int} {r : (List Int)} (h : slices_insertionSortCmpFunc_int__impl_Allocate_1 x0 x1 x2 z3_0 z3_1 z3_2 = some r)  :
    GivesMQ Try.prog (fun w => ∀ (q0 : Int) (q1 : Int) (r : Int), impl_Allocate_1 q0 q1 z3_0 z3_1 z3_2 = some r → Gives0 Try.prog 35 #[.int .i64 q0, .int .i64 q1, .pointer (some ⟨g3_0, 0, none⟩), .pointer (some ⟨g3_1, 0, none⟩), .pointer (some ⟨g3_2, 0, none⟩)] w (.int .i64 r)) 43 #[.slice a0_0 x0.length c0_0, .int .i64 x1, .int .i64 x2, .func (.func 35) #[] #[.pointer (some ⟨g3_0, 0, none⟩), .pointer (some ⟨g3_1, 0, none⟩), .pointer (some ⟨g3_2, 0, none⟩)]] W [SlRes e0_0 x0 a0_0 c0_0] [SlRes e0_0 r a0_0 c0_0] (.tuple #[]) := by
 unfold slices_insertionSortCmpFunc_int__impl_Allocate_1 at h
 refine enterMQ [.v (.slice a0_0 x0.length c0_0), vi x1, vi x2, .v (.func (.func 35) #[] #[.pointer (some ⟨g3_0, 0, none⟩), .pointer (some ⟨g3_1, 0, none⟩), .pointer (some ⟨g3_2, 0, none⟩)])] (args := [.slice a0_0 x0.length c0_0, .int .i64 x1, .int .i64 x2, .func (.func 35) #[] #[.pointer (some ⟨g3_0, 0, none⟩), .pointer (some ⟨g3_1, 0, none⟩), .pointer (some ⟨g3_2, 0, none⟩)]]) (by kernel_rfl) (by kernel_rfl) Try.func43 rfl Try.ntmps43 (by kernel_rfl) (fun Fs hq => ?_)
 refine qs (qr (oN 3 [(8, vi (w64 (x1 + 1)))] [0, 1, 2, 3] ?_))
 refine oe (nt ?_)
 obtain ⟨r24, hL25, h26⟩ := bS h
 obtain ⟨k27, hk28, h26⟩ := brkS h26
 refine JC_cutP (τ := ((List Int)) × (Unit)) (fun y => k27 y.1 = some r) (fun y32 => [(0, .v (.slice a0_0 y32.1.length c0_0)), (3, .v (.func (.func 35) #[] #[.pointer (some ⟨g3_0, 0, none⟩), .pointer (some ⟨g3_1, 0, none⟩), .pointer (some ⟨g3_2, 0, none⟩)]))]) (fun y32 => []) (fun y32 => [SlRes e0_0 y32.1 a0_0 c0_0]) ?_ (fun y32 h33p => ?_)
 · refine qb (lp Unit hL25 (fun s21 y22 => [(8, vi s21.1), (0, .v (.slice a0_0 s21.2.1.length c0_0)), (1, vi s21.2.2.1), (2, vi s21.2.2.2), (3, .v (.func (.func 35) #[] #[.pointer (some ⟨g3_0, 0, none⟩), .pointer (some ⟨g3_1, 0, none⟩), .pointer (some ⟨g3_2, 0, none⟩)]))]) (fun s21 y22 => []) (fun s21 y22 => [SlRes e0_0 s21.2.1 a0_0 c0_0]) () [8, 0, 1, 2, 3] [0] 0 (fun s21 y22 t23 h29 hd30 => ?_))
   refine qs (qs (qr (oN 3 [(14, vb (decide (s21.1 < s21.2.2.2)))] [8, 0, 1, 2, 3] ?_)))
   refine oe (nt (cC h29 (fun h35 => ?_) (fun h36 => ?_)))
   · refine qk (nt (qs (qb (qs (qr (oN 2 [(9, vi s21.1)] [8, 0, 1, 2, 3] ?_))))))
     refine oe (nt ?_)
     obtain ⟨r40, hL41, h42⟩ := bS h35
     obtain ⟨k43, hk44, h42⟩ := brkS h42
     refine JC_cutP (τ := (Int × (List Int) × Int × Int) × (Unit)) (fun y => k43 y.1 = some t23) (fun y48 => [(8, vi y48.1.1), (0, .v (.slice a0_0 y48.1.2.1.length c0_0)), (1, vi y48.1.2.2.1), (2, vi y48.1.2.2.2), (3, .v (.func (.func 35) #[] #[.pointer (some ⟨g3_0, 0, none⟩), .pointer (some ⟨g3_1, 0, none⟩), .pointer (some ⟨g3_2, 0, none⟩)]))]) (fun y48 => []) (fun y48 => [SlRes e0_0 y48.1.2.1 a0_0 c0_0]) ?_ (fun y48 h49p => ?_)
     · refine qb (lp Unit hL41 (fun s37 y38 => [(9, vi s37.1), (8, vi s21.1), (0, .v (.slice a0_0 s37.2.length c0_0)), (1, vi s21.2.2.1), (2, vi s21.2.2.2), (3, .v (.func (.func 35) #[] #[.pointer (some ⟨g3_0, 0, none⟩), .pointer (some ⟨g3_1, 0, none⟩), .pointer (some ⟨g3_2, 0, none⟩)]))]) (fun s37 y38 => []) (fun s37 y38 => [SlRes e0_0 s37.2 a0_0 c0_0]) () [9, 8, 0, 1, 2, 3] [0] 0 (fun s37 y38 t39 h45 hd46 => ?_))
       refine qs (qs ?_)
       obtain ⟨p50, hE51, h52⟩ := bS h45
       refine JC_cut (τ := Unit) (fun _ => [(0, .v (.slice a0_0 s37.2.length c0_0)), (1, vi s21.2.2.1), (2, vi s21.2.2.2), (3, .v (.func (.func 35) #[] #[.pointer (some ⟨g3_0, 0, none⟩), .pointer (some ⟨g3_1, 0, none⟩), .pointer (some ⟨g3_2, 0, none⟩)])), (8, vi s21.1), (9, vi s37.1), (34, vb p50)]) (fun _ => []) (fun _ => [SlRes e0_0 s37.2 a0_0 c0_0]) ?_ (fun _ => ?_)
       · refine JC_quiet (by kernel_rfl) (by kernel_rfl) ?_
         refine qN 4 [(21, vb (decide (s37.1 > s21.2.2.1)))] [9, 8, 0, 1, 2, 3] ?_
         refine qS 21 hE51 (fun h54 => ?_) (fun h55 => ?_)
         · refine qN 3 [(24, vi s37.1), (23, .v (.slice a0_0 s37.2.length c0_0)), (22, .v (.func (.func 35) #[] #[.pointer (some ⟨g3_0, 0, none⟩), .pointer (some ⟨g3_1, 0, none⟩), .pointer (some ⟨g3_2, 0, none⟩)]))] [21, 9, 8, 0, 1, 2, 3] ?_
           obtain ⟨x56, hx57, h58⟩ := bS h54
           refine qi 1 (fun γ w hs => (hs.view 0 rfl)) hx57 ?_
           refine ql 3 0 (.int .i64 x56) (fun γ w hs => (hs.view 0 rfl).flatq hx57) ?_
           refine qN 3 [(29, vi (w64 (s37.1 - 1))), (27, .v (.slice a0_0 s37.2.length c0_0))] [26, 22, 21, 9, 8, 0, 1, 2, 3] ?_
           obtain ⟨x59, hx60, h61⟩ := bS h58
           refine qi 1 (fun γ w hs => (hs.view 0 rfl)) hx60 ?_
           refine ql 3 0 (.int .i64 x59) (fun γ w hs => (hs.view 0 rfl).flatq hx60) ?_
           obtain ⟨t62, h63, h64⟩ := bS h61
           refine q0 (fun γ w hs => hq w hs.kept _ _ _ h63) ?_
           refine qN 2 [(34, vb (decide (t62 < 0)))] [9, 8, 0, 1, 2, 3] ?_
           refine qz ?_
           obtain rfl := sI h64
           exact mt () [0, 1, 2, 3, 8, 9, 34] [0] 0
         refine qN 13 [(34, vb false)] [9, 8, 0, 1, 2, 3] ?_
         refine qz ?_
         obtain rfl := sI h55
         exact mt () [0, 1, 2, 3, 8, 9, 34] [0] 0
       refine nt (cC h52 (fun h67 => ?_) (fun h68 => ?_))
       · refine qk (nt (qs (qb ?_)))
         obtain ⟨x69, hx70, h71⟩ := bS h67
         obtain ⟨x72, hx73, h74⟩ := bS h71
         obtain ⟨x75, hx76, h77⟩ := bS h74
         obtain ⟨l78, hm79, h80⟩ := bS h77
         replace hm79 := (sI hm79).symm
         have hl81 := len_set hm79
         obtain ⟨x82, hx83, h84⟩ := bS h80
         obtain ⟨l85, hm86, h87⟩ := bS h84
         replace hm86 := (sI hm86).symm
         have hl88 := len_set hm86
         refine JC_cut (τ := Unit) (fun _ => [(0, .v (.slice a0_0 l85.length c0_0)), (1, vi s21.2.2.1), (2, vi s21.2.2.2), (3, .v (.func (.func 35) #[] #[.pointer (some ⟨g3_0, 0, none⟩), .pointer (some ⟨g3_1, 0, none⟩), .pointer (some ⟨g3_2, 0, none⟩)])), (8, vi s21.1), (9, vi s37.1)]) (fun _ => []) (fun _ => [SlRes e0_0 l85 a0_0 c0_0]) ?_ (fun _ => ?_)
         · refine jw [0, 1, 2, 3, 8, 9] [0] ?_
           refine JC_heldN (ks := []) (Rk := []) 18 (by kernel_rfl) (by kernel_rfl) ?_
           refine htq 0 (.v (.slice a0_0 s37.2.length c0_0)) [] ?_
           refine htq 1 (vi s37.1) [] ?_
           refine htq 2 (.v (.slice a0_0 s37.2.length c0_0)) [] ?_
           refine htq 3 (vi s37.1) [] ?_
           refine htq 4 (vi (w64 (s37.1 - 1))) [] ?_
           refine hk [41, 39, 38, 37, 0, 1, 2, 3, 8, 9] ?_
           refine htq 5 (.v (.slice a0_0 s37.2.length c0_0)) [] ?_
           refine htq 6 (vi s37.1) [] ?_
           refine htq 7 (vi (w64 (s37.1 - 1))) [] ?_
           refine hk [44, 42, 41, 39, 38, 37, 0, 1, 2, 3, 8, 9] ?_
           refine htq 10 (.v (.slice a0_0 s37.2.length c0_0)) [] ?_
           refine htq 11 (vi s37.1) [] ?_
           refine ha2 8 12 ?_ ?_
           · refine hi (fun γ0 δ hm => ?_)
             refine JG_index (by kernel_rfl) (d := a0_0) (m := s37.2.length) (j := (w64 (s37.1 - 1))) (s := 1) (by kernel_rfl) (fun w hs => (hs.view 0 rfl)) rfl hx70 rfl ?_
             refine gn hm [45, 48, 47, 41, 39, 38, 37, 0, 1, 2, 3, 8, 9] [] ?_
             refine ha2 9 12 ?_ ?_
             · refine hi (fun γ0 δ hm => ?_)
               refine JG_loadq (by kernel_rfl) (t := 3) (d := a0_0) (Int.toNat (w64 (s37.1 - 1)) * 1) 0 (by kernel_rfl) (cs := [.int .i64 x69]) (v := .int .i64 x69) (fun w hs => (hs.view 0 rfl).flatq hx70) (by kernel_rfl) rfl ?_
               refine gn hm [46, 48, 47, 41, 39, 38, 37, 0, 1, 2, 3, 8, 9] [] ?_
               refine ha1 12 ?_
               refine hi (fun γ0 δ hm => ?_)
               refine JG_index (by kernel_rfl) (d := a0_0) (m := s37.2.length) (j := s37.1) (s := 1) (by kernel_rfl) (fun w hs => (hs.view 0 rfl)) rfl hx73 rfl ?_
               refine gn hm [49, 46, 41, 39, 38, 37, 0, 1, 2, 3, 8, 9] [] ?_
               refine ha1 13 ?_
               refine hi (fun γ0 δ hm => ?_)
               refine JG_loadq (by kernel_rfl) (t := 3) (d := a0_0) (Int.toNat s37.1 * 1) 0 (by kernel_rfl) (cs := [.int .i64 x72]) (v := .int .i64 x72) (fun w hs => (hs.view 0 rfl).flatq hx73) (by kernel_rfl) rfl ?_
               refine gn hm [50, 46, 41, 39, 38, 37, 0, 1, 2, 3, 8, 9] [] ?_
               refine ha1 14 ?_
               refine hi (fun γ0 δ hm => ?_)
               refine JG_index (by kernel_rfl) (d := a0_0) (m := s37.2.length) (j := s37.1) (s := 1) (by kernel_rfl) (fun w hs => (hs.view 0 rfl)) rfl hx76 rfl ?_
               refine gn hm [51, 50, 46, 41, 39, 0, 1, 2, 3, 8, 9] [] ?_
               refine ha1 15 ?_
               refine hi (fun γ0 δ hm => ?_)
               refine JG_storeq (α := Int) (d := a0_0) (vs := [.int .i64 x69]) (j := s37.1) (x' := x69) (by kernel_rfl) 0 (by kernel_rfl) hx76 (Rc := []) (Rr := []) rfl (by kernel_rfl) (fun w c F Fs ho _ _ => own_flat_set (by kernel_rfl) ho) hm79 (sl' := [(51, .q a0_0 (Int.toNat s37.1 * 1)), (50, vi x72), (46, vi x69), (41, vi (w64 (s37.1 - 1))), (39, .v (.slice a0_0 s37.2.length c0_0)), (0, .v (.slice a0_0 s37.2.length c0_0)), (1, vi s21.2.2.1), (2, vi s21.2.2.2), (3, .v (.func (.func 35) #[] #[.pointer (some ⟨g3_0, 0, none⟩), .pointer (some ⟨g3_1, 0, none⟩), .pointer (some ⟨g3_2, 0, none⟩)])), (8, vi s21.1), (9, vi s37.1)]) (by kernel_rfl) ?_
               refine KG_eqE (sl' := [(51, .q a0_0 (Int.toNat s37.1 * 1)), (50, vi x72), (46, vi x69), (41, vi (w64 (s37.1 - 1))), (39, .v (.slice a0_0 l78.length c0_0)), (0, .v (.slice a0_0 l78.length c0_0)), (1, vi s21.2.2.1), (2, vi s21.2.2.2), (3, .v (.func (.func 35) #[] #[.pointer (some ⟨g3_0, 0, none⟩), .pointer (some ⟨g3_1, 0, none⟩), .pointer (some ⟨g3_2, 0, none⟩)])), (8, vi s21.1), (9, vi s37.1)]) (bx' := []) (by simp only [hl81]) rfl ?_
               refine gn hm [50, 41, 39, 0, 1, 2, 3, 8, 9] [] ?_
               refine ha1 16 ?_
               refine hi (fun γ0 δ hm => ?_)
               refine JG_index (by kernel_rfl) (d := a0_0) (m := l78.length) (j := (w64 (s37.1 - 1))) (s := 1) (by kernel_rfl) (fun w hs => (hs.view 0 rfl)) rfl hx83 rfl ?_
               refine gn hm [52, 50, 0, 1, 2, 3, 8, 9] [] ?_
               refine ha1 17 ?_
               refine hi (fun γ0 δ hm => ?_)
               refine JG_storeq (α := Int) (d := a0_0) (vs := [.int .i64 x72]) (j := (w64 (s37.1 - 1))) (x' := x72) (by kernel_rfl) 0 (by kernel_rfl) hx83 (Rc := []) (Rr := []) rfl (by kernel_rfl) (fun w c F Fs ho _ _ => own_flat_set (by kernel_rfl) ho) hm86 (sl' := [(52, .q a0_0 (Int.toNat (w64 (s37.1 - 1)) * 1)), (50, vi x72), (0, .v (.slice a0_0 l78.length c0_0)), (1, vi s21.2.2.1), (2, vi s21.2.2.2), (3, .v (.func (.func 35) #[] #[.pointer (some ⟨g3_0, 0, none⟩), .pointer (some ⟨g3_1, 0, none⟩), .pointer (some ⟨g3_2, 0, none⟩)])), (8, vi s21.1), (9, vi s37.1)]) (by kernel_rfl) ?_
               refine KG_eqE (sl' := [(52, .q a0_0 (Int.toNat (w64 (s37.1 - 1)) * 1)), (50, vi x72), (0, .v (.slice a0_0 l85.length c0_0)), (1, vi s21.2.2.1), (2, vi s21.2.2.2), (3, .v (.func (.func 35) #[] #[.pointer (some ⟨g3_0, 0, none⟩), .pointer (some ⟨g3_1, 0, none⟩), .pointer (some ⟨g3_2, 0, none⟩)])), (8, vi s21.1), (9, vi s37.1)]) (bx' := []) (by simp only [hl88]) rfl ?_
               refine gn hm [0, 1, 2, 3, 8, 9] [] ?_
               exact hd () [0, 1, 2, 3, 8, 9] [0] 0
             · refine hi (fun γ0 δ hm => ?_)
               refine JG_index (by kernel_rfl) (d := a0_0) (m := s37.2.length) (j := s37.1) (s := 1) (by kernel_rfl) (fun w hs => (hs.view 0 rfl)) rfl hx73 rfl ?_
               refine gn hm [49, 45, 41, 39, 38, 37, 0, 1, 2, 3, 8, 9] [] ?_
               refine ha2 9 13 ?_ ?_
               · refine hi (fun γ0 δ hm => ?_)
                 refine JG_loadq (by kernel_rfl) (t := 3) (d := a0_0) (Int.toNat (w64 (s37.1 - 1)) * 1) 0 (by kernel_rfl) (cs := [.int .i64 x69]) (v := .int .i64 x69) (fun w hs => (hs.view 0 rfl).flatq hx70) (by kernel_rfl) rfl ?_
                 refine gn hm [46, 49, 41, 39, 38, 37, 0, 1, 2, 3, 8, 9] [] ?_
                 refine ha1 13 ?_
                 refine hi (fun γ0 δ hm => ?_)
                 refine JG_loadq (by kernel_rfl) (t := 3) (d := a0_0) (Int.toNat s37.1 * 1) 0 (by kernel_rfl) (cs := [.int .i64 x72]) (v := .int .i64 x72) (fun w hs => (hs.view 0 rfl).flatq hx73) (by kernel_rfl) rfl ?_
                 refine gn hm [50, 46, 41, 39, 38, 37, 0, 1, 2, 3, 8, 9] [] ?_
                 refine ha1 14 ?_
                 refine hi (fun γ0 δ hm => ?_)
                 refine JG_index (by kernel_rfl) (d := a0_0) (m := s37.2.length) (j := s37.1) (s := 1) (by kernel_rfl) (fun w hs => (hs.view 0 rfl)) rfl hx76 rfl ?_
                 refine gn hm [51, 50, 46, 41, 39, 0, 1, 2, 3, 8, 9] [] ?_
                 refine ha1 15 ?_
                 refine hi (fun γ0 δ hm => ?_)
                 refine JG_storeq (α := Int) (d := a0_0) (vs := [.int .i64 x69]) (j := s37.1) (x' := x69) (by kernel_rfl) 0 (by kernel_rfl) hx76 (Rc := []) (Rr := []) rfl (by kernel_rfl) (fun w c F Fs ho _ _ => own_flat_set (by kernel_rfl) ho) hm79 (sl' := [(51, .q a0_0 (Int.toNat s37.1 * 1)), (50, vi x72), (46, vi x69), (41, vi (w64 (s37.1 - 1))), (39, .v (.slice a0_0 s37.2.length c0_0)), (0, .v (.slice a0_0 s37.2.length c0_0)), (1, vi s21.2.2.1), (2, vi s21.2.2.2), (3, .v (.func (.func 35) #[] #[.pointer (some ⟨g3_0, 0, none⟩), .pointer (some ⟨g3_1, 0, none⟩), .pointer (some ⟨g3_2, 0, none⟩)])), (8, vi s21.1), (9, vi s37.1)]) (by kernel_rfl) ?_
                 refine KG_eqE (sl' := [(51, .q a0_0 (Int.toNat s37.1 * 1)), (50, vi x72), (46, vi x69), (41, vi (w64 (s37.1 - 1))), (39, .v (.slice a0_0 l78.length c0_0)), (0, .v (.slice a0_0 l78.length c0_0)), (1, vi s21.2.2.1), (2, vi s21.2.2.2), (3, .v (.func (.func 35) #[] #[.pointer (some ⟨g3_0, 0, none⟩), .pointer (some ⟨g3_1, 0, none⟩), .pointer (some ⟨g3_2, 0, none⟩)])), (8, vi s21.1), (9, vi s37.1)]) (bx' := []) (by simp only [hl81]) rfl ?_
                 refine gn hm [50, 41, 39, 0, 1, 2, 3, 8, 9] [] ?_
                 refine ha1 16 ?_
                 refine hi (fun γ0 δ hm => ?_)
                 refine JG_index (by kernel_rfl) (d := a0_0) (m := l78.length) (j := (w64 (s37.1 - 1))) (s := 1) (by kernel_rfl) (fun w hs => (hs.view 0 rfl)) rfl hx83 rfl ?_
                 refine gn hm [52, 50, 0, 1, 2, 3, 8, 9] [] ?_
                 refine ha1 17 ?_
                 refine hi (fun γ0 δ hm => ?_)
                 refine JG_storeq (α := Int) (d := a0_0) (vs := [.int .i64 x72]) (j := (w64 (s37.1 - 1))) (x' := x72) (by kernel_rfl) 0 (by kernel_rfl) hx83 (Rc := []) (Rr := []) rfl (by kernel_rfl) (fun w c F Fs ho _ _ => own_flat_set (by kernel_rfl) ho) hm86 (sl' := [(52, .q a0_0 (Int.toNat (w64 (s37.1 - 1)) * 1)), (50, vi x72), (0, .v (.slice a0_0 l78.length c0_0)), (1, vi s21.2.2.1), (2, vi s21.2.2.2), (3, .v (.func (.func 35) #[] #[.pointer (some ⟨g3_0, 0, none⟩), .pointer (some ⟨g3_1, 0, none⟩), .pointer (some ⟨g3_2, 0, none⟩)])), (8, vi s21.1), (9, vi s37.1)]) (by kernel_rfl) ?_
                 refine KG_eqE (sl' := [(52, .q a0_0 (Int.toNat (w64 (s37.1 - 1)) * 1)), (50, vi x72), (0, .v (.slice a0_0 l85.length c0_0)), (1, vi s21.2.2.1), (2, vi s21.2.2.2), (3, .v (.func (.func 35) #[] #[.pointer (some ⟨g3_0, 0, none⟩), .pointer (some ⟨g3_1, 0, none⟩), .pointer (some ⟨g3_2, 0, none⟩)])), (8, vi s21.1), (9, vi s37.1)]) (bx' := []) (by simp only [hl88]) rfl ?_
                 refine gn hm [0, 1, 2, 3, 8, 9] [] ?_
                 exact hd () [0, 1, 2, 3, 8, 9] [0] 0
               · refine hi (fun γ0 δ hm => ?_)
                 refine JG_loadq (by kernel_rfl) (t := 3) (d := a0_0) (Int.toNat s37.1 * 1) 0 (by kernel_rfl) (cs := [.int .i64 x72]) (v := .int .i64 x72) (fun w hs => (hs.view 0 rfl).flatq hx73) (by kernel_rfl) rfl ?_
                 refine gn hm [50, 45, 41, 39, 38, 37, 0, 1, 2, 3, 8, 9] [] ?_
                 refine ha1 9 ?_
                 refine hi (fun γ0 δ hm => ?_)
                 refine JG_loadq (by kernel_rfl) (t := 3) (d := a0_0) (Int.toNat (w64 (s37.1 - 1)) * 1) 0 (by kernel_rfl) (cs := [.int .i64 x69]) (v := .int .i64 x69) (fun w hs => (hs.view 0 rfl).flatq hx70) (by kernel_rfl) rfl ?_
                 refine gn hm [46, 50, 41, 39, 38, 37, 0, 1, 2, 3, 8, 9] [] ?_
                 refine ha1 14 ?_
                 refine hi (fun γ0 δ hm => ?_)
                 refine JG_index (by kernel_rfl) (d := a0_0) (m := s37.2.length) (j := s37.1) (s := 1) (by kernel_rfl) (fun w hs => (hs.view 0 rfl)) rfl hx76 rfl ?_
                 refine gn hm [51, 46, 50, 41, 39, 0, 1, 2, 3, 8, 9] [] ?_
                 refine ha1 15 ?_
                 refine hi (fun γ0 δ hm => ?_)
                 refine JG_storeq (α := Int) (d := a0_0) (vs := [.int .i64 x69]) (j := s37.1) (x' := x69) (by kernel_rfl) 0 (by kernel_rfl) hx76 (Rc := []) (Rr := []) rfl (by kernel_rfl) (fun w c F Fs ho _ _ => own_flat_set (by kernel_rfl) ho) hm79 (sl' := [(51, .q a0_0 (Int.toNat s37.1 * 1)), (46, vi x69), (50, vi x72), (41, vi (w64 (s37.1 - 1))), (39, .v (.slice a0_0 s37.2.length c0_0)), (0, .v (.slice a0_0 s37.2.length c0_0)), (1, vi s21.2.2.1), (2, vi s21.2.2.2), (3, .v (.func (.func 35) #[] #[.pointer (some ⟨g3_0, 0, none⟩), .pointer (some ⟨g3_1, 0, none⟩), .pointer (some ⟨g3_2, 0, none⟩)])), (8, vi s21.1), (9, vi s37.1)]) (by kernel_rfl) ?_
                 refine KG_eqE (sl' := [(51, .q a0_0 (Int.toNat s37.1 * 1)), (46, vi x69), (50, vi x72), (41, vi (w64 (s37.1 - 1))), (39, .v (.slice a0_0 l78.length c0_0)), (0, .v (.slice a0_0 l78.length c0_0)), (1, vi s21.2.2.1), (2, vi s21.2.2.2), (3, .v (.func (.func 35) #[] #[.pointer (some ⟨g3_0, 0, none⟩), .pointer (some ⟨g3_1, 0, none⟩), .pointer (some ⟨g3_2, 0, none⟩)])), (8, vi s21.1), (9, vi s37.1)]) (bx' := []) (by simp only [hl81]) rfl ?_
                 refine gn hm [50, 41, 39, 0, 1, 2, 3, 8, 9] [] ?_
                 refine ha1 16 ?_
                 refine hi (fun γ0 δ hm => ?_)
                 refine JG_index (by kernel_rfl) (d := a0_0) (m := l78.length) (j := (w64 (s37.1 - 1))) (s := 1) (by kernel_rfl) (fun w hs => (hs.view 0 rfl)) rfl hx83 rfl ?_
                 refine gn hm [52, 50, 0, 1, 2, 3, 8, 9] [] ?_
                 refine ha1 17 ?_
                 refine hi (fun γ0 δ hm => ?_)
                 refine JG_storeq (α := Int) (d := a0_0) (vs := [.int .i64 x72]) (j := (w64 (s37.1 - 1))) (x' := x72) (by kernel_rfl) 0 (by kernel_rfl) hx83 (Rc := []) (Rr := []) rfl (by kernel_rfl) (fun w c F Fs ho _ _ => own_flat_set (by kernel_rfl) ho) hm86 (sl' := [(52, .q a0_0 (Int.toNat (w64 (s37.1 - 1)) * 1)), (50, vi x72), (0, .v (.slice a0_0 l78.length c0_0)), (1, vi s21.2.2.1), (2, vi s21.2.2.2), (3, .v (.func (.func 35) #[] #[.pointer (some ⟨g3_0, 0, none⟩), .pointer (some ⟨g3_1, 0, none⟩), .pointer (some ⟨g3_2, 0, none⟩)])), (8, vi s21.1), (9, vi s37.1)]) (by kernel_rfl) ?_
                 refine KG_eqE (sl' := [(52, .q a0_0 (Int.toNat (w64 (s37.1 - 1)) * 1)), (50, vi x72), (0, .v (.slice a0_0 l85.length c0_0)), (1, vi s21.2.2.1), (2, vi s21.2.2.2), (3, .v (.func (.func 35) #[] #[.pointer (some ⟨g3_0, 0, none⟩), .pointer (some ⟨g3_1, 0, none⟩), .pointer (some ⟨g3_2, 0, none⟩)])), (8, vi s21.1), (9, vi s37.1)]) (bx' := []) (by simp only [hl88]) rfl ?_
                 refine gn hm [0, 1, 2, 3, 8, 9] [] ?_
                 exact hd () [0, 1, 2, 3, 8, 9] [0] 0
           · refine hi (fun γ0 δ hm => ?_)
             refine JG_index (by kernel_rfl) (d := a0_0) (m := s37.2.length) (j := s37.1) (s := 1) (by kernel_rfl) (fun w hs => (hs.view 0 rfl)) rfl hx73 rfl ?_
             refine gn hm [49, 44, 42, 41, 39, 38, 37, 0, 1, 2, 3, 8, 9] [] ?_
             refine ha2 8 13 ?_ ?_
             · refine hi (fun γ0 δ hm => ?_)
               refine JG_index (by kernel_rfl) (d := a0_0) (m := s37.2.length) (j := (w64 (s37.1 - 1))) (s := 1) (by kernel_rfl) (fun w hs => (hs.view 0 rfl)) rfl hx70 rfl ?_
               refine gn hm [45, 49, 41, 39, 38, 37, 0, 1, 2, 3, 8, 9] [] ?_
               refine ha2 9 13 ?_ ?_
               · refine hi (fun γ0 δ hm => ?_)
                 refine JG_loadq (by kernel_rfl) (t := 3) (d := a0_0) (Int.toNat (w64 (s37.1 - 1)) * 1) 0 (by kernel_rfl) (cs := [.int .i64 x69]) (v := .int .i64 x69) (fun w hs => (hs.view 0 rfl).flatq hx70) (by kernel_rfl) rfl ?_
                 refine gn hm [46, 49, 41, 39, 38, 37, 0, 1, 2, 3, 8, 9] [] ?_
                 refine ha1 13 ?_
                 refine hi (fun γ0 δ hm => ?_)
                 refine JG_loadq (by kernel_rfl) (t := 3) (d := a0_0) (Int.toNat s37.1 * 1) 0 (by kernel_rfl) (cs := [.int .i64 x72]) (v := .int .i64 x72) (fun w hs => (hs.view 0 rfl).flatq hx73) (by kernel_rfl) rfl ?_
                 refine gn hm [50, 46, 41, 39, 38, 37, 0, 1, 2, 3, 8, 9] [] ?_
                 refine ha1 14 ?_
                 refine hi (fun γ0 δ hm => ?_)
                 refine JG_index (by kernel_rfl) (d := a0_0) (m := s37.2.length) (j := s37.1) (s := 1) (by kernel_rfl) (fun w hs => (hs.view 0 rfl)) rfl hx76 rfl ?_
                 refine gn hm [51, 50, 46, 41, 39, 0, 1, 2, 3, 8, 9] [] ?_
                 refine ha1 15 ?_
                 refine hi (fun γ0 δ hm => ?_)
                 refine JG_storeq (α := Int) (d := a0_0) (vs := [.int .i64 x69]) (j := s37.1) (x' := x69) (by kernel_rfl) 0 (by kernel_rfl) hx76 (Rc := []) (Rr := []) rfl (by kernel_rfl) (fun w c F Fs ho _ _ => own_flat_set (by kernel_rfl) ho) hm79 (sl' := [(51, .q a0_0 (Int.toNat s37.1 * 1)), (50, vi x72), (46, vi x69), (41, vi (w64 (s37.1 - 1))), (39, .v (.slice a0_0 s37.2.length c0_0)), (0, .v (.slice a0_0 s37.2.length c0_0)), (1, vi s21.2.2.1), (2, vi s21.2.2.2), (3, .v (.func (.func 35) #[] #[.pointer (some ⟨g3_0, 0, none⟩), .pointer (some ⟨g3_1, 0, none⟩), .pointer (some ⟨g3_2, 0, none⟩)])), (8, vi s21.1), (9, vi s37.1)]) (by kernel_rfl) ?_
                 refine KG_eqE (sl' := [(51, .q a0_0 (Int.toNat s37.1 * 1)), (50, vi x72), (46, vi x69), (41, vi (w64 (s37.1 - 1))), (39, .v (.slice a0_0 l78.length c0_0)), (0, .v (.slice a0_0 l78.length c0_0)), (1, vi s21.2.2.1), (2, vi s21.2.2.2), (3, .v (.func (.func 35) #[] #[.pointer (some ⟨g3_0, 0, none⟩), .pointer (some ⟨g3_1, 0, none⟩), .pointer (some ⟨g3_2, 0, none⟩)])), (8, vi s21.1), (9, vi s37.1)]) (bx' := []) (by simp only [hl81]) rfl ?_
                 refine gn hm [50, 41, 39, 0, 1, 2, 3, 8, 9] [] ?_
                 refine ha1 16 ?_
                 refine hi (fun γ0 δ hm => ?_)
                 refine JG_index (by kernel_rfl) (d := a0_0) (m := l78.length) (j := (w64 (s37.1 - 1))) (s := 1) (by kernel_rfl) (fun w hs => (hs.view 0 rfl)) rfl hx83 rfl ?_
                 refine gn hm [52, 50, 0, 1, 2, 3, 8, 9] [] ?_
                 refine ha1 17 ?_
                 refine hi (fun γ0 δ hm => ?_)
                 refine JG_storeq (α := Int) (d := a0_0) (vs := [.int .i64 x72]) (j := (w64 (s37.1 - 1))) (x' := x72) (by kernel_rfl) 0 (by kernel_rfl) hx83 (Rc := []) (Rr := []) rfl (by kernel_rfl) (fun w c F Fs ho _ _ => own_flat_set (by kernel_rfl) ho) hm86 (sl' := [(52, .q a0_0 (Int.toNat (w64 (s37.1 - 1)) * 1)), (50, vi x72), (0, .v (.slice a0_0 l78.length c0_0)), (1, vi s21.2.2.1), (2, vi s21.2.2.2), (3, .v (.func (.func 35) #[] #[.pointer (some ⟨g3_0, 0, none⟩), .pointer (some ⟨g3_1, 0, none⟩), .pointer (some ⟨g3_2, 0, none⟩)])), (8, vi s21.1), (9, vi s37.1)]) (by kernel_rfl) ?_
                 refine KG_eqE (sl' := [(52, .q a0_0 (Int.toNat (w64 (s37.1 - 1)) * 1)), (50, vi x72), (0, .v (.slice a0_0 l85.length c0_0)), (1, vi s21.2.2.1), (2, vi s21.2.2.2), (3, .v (.func (.func 35) #[] #[.pointer (some ⟨g3_0, 0, none⟩), .pointer (some ⟨g3_1, 0, none⟩), .pointer (some ⟨g3_2, 0, none⟩)])), (8, vi s21.1), (9, vi s37.1)]) (bx' := []) (by simp only [hl88]) rfl ?_
                 refine gn hm [0, 1, 2, 3, 8, 9] [] ?_
                 exact hd () [0, 1, 2, 3, 8, 9] [0] 0
               · refine hi (fun γ0 δ hm => ?_)
                 refine JG_loadq (by kernel_rfl) (t := 3) (d := a0_0) (Int.toNat s37.1 * 1) 0 (by kernel_rfl) (cs := [.int .i64 x72]) (v := .int .i64 x72) (fun w hs => (hs.view 0 rfl).flatq hx73) (by kernel_rfl) rfl ?_
                 refine gn hm [50, 45, 41, 39, 38, 37, 0, 1, 2, 3, 8, 9] [] ?_
                 refine ha1 9 ?_
                 refine hi (fun γ0 δ hm => ?_)
                 refine JG_loadq (by kernel_rfl) (t := 3) (d := a0_0) (Int.toNat (w64 (s37.1 - 1)) * 1) 0 (by kernel_rfl) (cs := [.int .i64 x69]) (v := .int .i64 x69) (fun w hs => (hs.view 0 rfl).flatq hx70) (by kernel_rfl) rfl ?_
                 refine gn hm [46, 50, 41, 39, 38, 37, 0, 1, 2, 3, 8, 9] [] ?_
                 refine ha1 14 ?_
                 refine hi (fun γ0 δ hm => ?_)
                 refine JG_index (by kernel_rfl) (d := a0_0) (m := s37.2.length) (j := s37.1) (s := 1) (by kernel_rfl) (fun w hs => (hs.view 0 rfl)) rfl hx76 rfl ?_
                 refine gn hm [51, 46, 50, 41, 39, 0, 1, 2, 3, 8, 9] [] ?_
                 refine ha1 15 ?_
                 refine hi (fun γ0 δ hm => ?_)
                 refine JG_storeq (α := Int) (d := a0_0) (vs := [.int .i64 x69]) (j := s37.1) (x' := x69) (by kernel_rfl) 0 (by kernel_rfl) hx76 (Rc := []) (Rr := []) rfl (by kernel_rfl) (fun w c F Fs ho _ _ => own_flat_set (by kernel_rfl) ho) hm79 (sl' := [(51, .q a0_0 (Int.toNat s37.1 * 1)), (46, vi x69), (50, vi x72), (41, vi (w64 (s37.1 - 1))), (39, .v (.slice a0_0 s37.2.length c0_0)), (0, .v (.slice a0_0 s37.2.length c0_0)), (1, vi s21.2.2.1), (2, vi s21.2.2.2), (3, .v (.func (.func 35) #[] #[.pointer (some ⟨g3_0, 0, none⟩), .pointer (some ⟨g3_1, 0, none⟩), .pointer (some ⟨g3_2, 0, none⟩)])), (8, vi s21.1), (9, vi s37.1)]) (by kernel_rfl) ?_
                 refine KG_eqE (sl' := [(51, .q a0_0 (Int.toNat s37.1 * 1)), (46, vi x69), (50, vi x72), (41, vi (w64 (s37.1 - 1))), (39, .v (.slice a0_0 l78.length c0_0)), (0, .v (.slice a0_0 l78.length c0_0)), (1, vi s21.2.2.1), (2, vi s21.2.2.2), (3, .v (.func (.func 35) #[] #[.pointer (some ⟨g3_0, 0, none⟩), .pointer (some ⟨g3_1, 0, none⟩), .pointer (some ⟨g3_2, 0, none⟩)])), (8, vi s21.1), (9, vi s37.1)]) (bx' := []) (by simp only [hl81]) rfl ?_
                 refine gn hm [50, 41, 39, 0, 1, 2, 3, 8, 9] [] ?_
                 refine ha1 16 ?_
                 refine hi (fun γ0 δ hm => ?_)
                 refine JG_index (by kernel_rfl) (d := a0_0) (m := l78.length) (j := (w64 (s37.1 - 1))) (s := 1) (by kernel_rfl) (fun w hs => (hs.view 0 rfl)) rfl hx83 rfl ?_
                 refine gn hm [52, 50, 0, 1, 2, 3, 8, 9] [] ?_
                 refine ha1 17 ?_
                 refine hi (fun γ0 δ hm => ?_)
                 refine JG_storeq (α := Int) (d := a0_0) (vs := [.int .i64 x72]) (j := (w64 (s37.1 - 1))) (x' := x72) (by kernel_rfl) 0 (by kernel_rfl) hx83 (Rc := []) (Rr := []) rfl (by kernel_rfl) (fun w c F Fs ho _ _ => own_flat_set (by kernel_rfl) ho) hm86 (sl' := [(52, .q a0_0 (Int.toNat (w64 (s37.1 - 1)) * 1)), (50, vi x72), (0, .v (.slice a0_0 l78.length c0_0)), (1, vi s21.2.2.1), (2, vi s21.2.2.2), (3, .v (.func (.func 35) #[] #[.pointer (some ⟨g3_0, 0, none⟩), .pointer (some ⟨g3_1, 0, none⟩), .pointer (some ⟨g3_2, 0, none⟩)])), (8, vi s21.1), (9, vi s37.1)]) (by kernel_rfl) ?_
                 refine KG_eqE (sl' := [(52, .q a0_0 (Int.toNat (w64 (s37.1 - 1)) * 1)), (50, vi x72), (0, .v (.slice a0_0 l85.length c0_0)), (1, vi s21.2.2.1), (2, vi s21.2.2.2), (3, .v (.func (.func 35) #[] #[.pointer (some ⟨g3_0, 0, none⟩), .pointer (some ⟨g3_1, 0, none⟩), .pointer (some ⟨g3_2, 0, none⟩)])), (8, vi s21.1), (9, vi s37.1)]) (bx' := []) (by simp only [hl88]) rfl ?_
                 refine gn hm [0, 1, 2, 3, 8, 9] [] ?_
                 exact hd () [0, 1, 2, 3, 8, 9] [0] 0
             · refine hi (fun γ0 δ hm => ?_)
               refine JG_loadq (by kernel_rfl) (t := 3) (d := a0_0) (Int.toNat s37.1 * 1) 0 (by kernel_rfl) (cs := [.int .i64 x72]) (v := .int .i64 x72) (fun w hs => (hs.view 0 rfl).flatq hx73) (by kernel_rfl) rfl ?_
               refine gn hm [50, 44, 42, 41, 39, 38, 37, 0, 1, 2, 3, 8, 9] [] ?_
               refine ha1 8 ?_
               refine hi (fun γ0 δ hm => ?_)
               refine JG_index (by kernel_rfl) (d := a0_0) (m := s37.2.length) (j := (w64 (s37.1 - 1))) (s := 1) (by kernel_rfl) (fun w hs => (hs.view 0 rfl)) rfl hx70 rfl ?_
               refine gn hm [45, 50, 41, 39, 38, 37, 0, 1, 2, 3, 8, 9] [] ?_
               refine ha1 9 ?_
               refine hi (fun γ0 δ hm => ?_)
               refine JG_loadq (by kernel_rfl) (t := 3) (d := a0_0) (Int.toNat (w64 (s37.1 - 1)) * 1) 0 (by kernel_rfl) (cs := [.int .i64 x69]) (v := .int .i64 x69) (fun w hs => (hs.view 0 rfl).flatq hx70) (by kernel_rfl) rfl ?_
               refine gn hm [46, 50, 41, 39, 38, 37, 0, 1, 2, 3, 8, 9] [] ?_
               refine ha1 14 ?_
               refine hi (fun γ0 δ hm => ?_)
               refine JG_index (by kernel_rfl) (d := a0_0) (m := s37.2.length) (j := s37.1) (s := 1) (by kernel_rfl) (fun w hs => (hs.view 0 rfl)) rfl hx76 rfl ?_
               refine gn hm [51, 46, 50, 41, 39, 0, 1, 2, 3, 8, 9] [] ?_
               refine ha1 15 ?_
               refine hi (fun γ0 δ hm => ?_)
               refine JG_storeq (α := Int) (d := a0_0) (vs := [.int .i64 x69]) (j := s37.1) (x' := x69) (by kernel_rfl) 0 (by kernel_rfl) hx76 (Rc := []) (Rr := []) rfl (by kernel_rfl) (fun w c F Fs ho _ _ => own_flat_set (by kernel_rfl) ho) hm79 (sl' := [(51, .q a0_0 (Int.toNat s37.1 * 1)), (46, vi x69), (50, vi x72), (41, vi (w64 (s37.1 - 1))), (39, .v (.slice a0_0 s37.2.length c0_0)), (0, .v (.slice a0_0 s37.2.length c0_0)), (1, vi s21.2.2.1), (2, vi s21.2.2.2), (3, .v (.func (.func 35) #[] #[.pointer (some ⟨g3_0, 0, none⟩), .pointer (some ⟨g3_1, 0, none⟩), .pointer (some ⟨g3_2, 0, none⟩)])), (8, vi s21.1), (9, vi s37.1)]) (by kernel_rfl) ?_
               refine KG_eqE (sl' := [(51, .q a0_0 (Int.toNat s37.1 * 1)), (46, vi x69), (50, vi x72), (41, vi (w64 (s37.1 - 1))), (39, .v (.slice a0_0 l78.length c0_0)), (0, .v (.slice a0_0 l78.length c0_0)), (1, vi s21.2.2.1), (2, vi s21.2.2.2), (3, .v (.func (.func 35) #[] #[.pointer (some ⟨g3_0, 0, none⟩), .pointer (some ⟨g3_1, 0, none⟩), .pointer (some ⟨g3_2, 0, none⟩)])), (8, vi s21.1), (9, vi s37.1)]) (bx' := []) (by simp only [hl81]) rfl ?_
               refine gn hm [50, 41, 39, 0, 1, 2, 3, 8, 9] [] ?_
               refine ha1 16 ?_
               refine hi (fun γ0 δ hm => ?_)
               refine JG_index (by kernel_rfl) (d := a0_0) (m := l78.length) (j := (w64 (s37.1 - 1))) (s := 1) (by kernel_rfl) (fun w hs => (hs.view 0 rfl)) rfl hx83 rfl ?_
               refine gn hm [52, 50, 0, 1, 2, 3, 8, 9] [] ?_
               refine ha1 17 ?_
               refine hi (fun γ0 δ hm => ?_)
               refine JG_storeq (α := Int) (d := a0_0) (vs := [.int .i64 x72]) (j := (w64 (s37.1 - 1))) (x' := x72) (by kernel_rfl) 0 (by kernel_rfl) hx83 (Rc := []) (Rr := []) rfl (by kernel_rfl) (fun w c F Fs ho _ _ => own_flat_set (by kernel_rfl) ho) hm86 (sl' := [(52, .q a0_0 (Int.toNat (w64 (s37.1 - 1)) * 1)), (50, vi x72), (0, .v (.slice a0_0 l78.length c0_0)), (1, vi s21.2.2.1), (2, vi s21.2.2.2), (3, .v (.func (.func 35) #[] #[.pointer (some ⟨g3_0, 0, none⟩), .pointer (some ⟨g3_1, 0, none⟩), .pointer (some ⟨g3_2, 0, none⟩)])), (8, vi s21.1), (9, vi s37.1)]) (by kernel_rfl) ?_
               refine KG_eqE (sl' := [(52, .q a0_0 (Int.toNat (w64 (s37.1 - 1)) * 1)), (50, vi x72), (0, .v (.slice a0_0 l85.length c0_0)), (1, vi s21.2.2.1), (2, vi s21.2.2.2), (3, .v (.func (.func 35) #[] #[.pointer (some ⟨g3_0, 0, none⟩), .pointer (some ⟨g3_1, 0, none⟩), .pointer (some ⟨g3_2, 0, none⟩)])), (8, vi s21.1), (9, vi s37.1)]) (bx' := []) (by simp only [hl88]) rfl ?_
               refine gn hm [0, 1, 2, 3, 8, 9] [] ?_
               exact hd () [0, 1, 2, 3, 8, 9] [0] 0
         refine bn (nt (qr (oN 3 [(9, vi (w64 (s37.1 - 1)))] [0, 1, 2, 3, 8] ?_)))
         exact oe (ct h87 () [9, 8, 0, 1, 2, 3] [0] 0)
       refine qx (nx (nx (bh ?_)))
       have h90 := leafB hd46 h68 h42
       exact mp ((s21.1, s37.2, s21.2.2.1, s21.2.2.2), ()) h90 [8, 0, 1, 2, 3] [0] 0
     have h49 := (congrFun hk44 _).symm.trans h49p
     refine bn (nt (qr (oN 3 [(8, vi (w64 (y48.1.1 + 1)))] [0, 1, 2, 3] ?_)))
     exact oe (ct h49 () [8, 0, 1, 2, 3] [0] 0)
   refine qx (nx (nx (bh ?_)))
   have h91 := leafB hd30 h36 h26
   exact mp (s21.2.1, ()) h91 [0, 3] [0] 0
 have h33 := (congrFun hk28 _).symm.trans h33p
 refine JE_fall (vs := []) (by kernel_rfl) (fun γ w hs => ?_)
 rw [← sI h33]
 exact hs.turned (is := [0]) rfl

theorem c_slices_swapRangeCmpFunc_int__impl_Allocate_1 {W : World} {x0 : List Int} {a0_0 : Option Addr} {c0_0 : Nat} {e0_0 : TypeId} {x1 : Int} {x2 : Int} {x3 : Int} {g4_0 : Nat} {z4_0 : Int} {g4_1 : Nat} {z4_1 : List Int} {g4_2 : Nat} {z4_2 : Int} {r : (List Int)} (h : slices_swapRangeCmpFunc_int__impl_Allocate_1 x0 x1 x2 x3 z4_0 z4_1 z4_2 = some r)  :
    GivesMQ Try.prog (fun w => ∀ (q0 : Int) (q1 : Int) (r : Int), impl_Allocate_1 q0 q1 z4_0 z4_1 z4_2 = some r → Gives0 Try.prog 35 #[.int .i64 q0, .int .i64 q1, .pointer (some ⟨g4_0, 0, none⟩), .pointer (some ⟨g4_1, 0, none⟩), .pointer (some ⟨g4_2, 0, none⟩)] w (.int .i64 r)) 46 #[.slice a0_0 x0.length c0_0, .int .i64 x1, .int .i64 x2, .int .i64 x3, .func (.func 35) #[] #[.pointer (some ⟨g4_0, 0, none⟩), .pointer (some ⟨g4_1, 0, none⟩), .pointer (some ⟨g4_2, 0, none⟩)]] W [SlRes e0_0 x0 a0_0 c0_0] [SlRes e0_0 r a0_0 c0_0] (.tuple #[]) := by
 unfold slices_swapRangeCmpFunc_int__impl_Allocate_1 at h
 refine enterMQ [.v (.slice a0_0 x0.length c0_0), vi x1, vi x2, vi x3, .v (.func (.func 35) #[] #[.pointer (some ⟨g4_0, 0, none⟩), .pointer (some ⟨g4_1, 0, none⟩), .pointer (some ⟨g4_2, 0, none⟩)])] (args := [.slice a0_0 x0.length c0_0, .int .i64 x1, .int .i64 x2, .int .i64 x3, .func (.func 35) #[] #[.pointer (some ⟨g4_0, 0, none⟩), .pointer (some ⟨g4_1, 0, none⟩), .pointer (some ⟨g4_2, 0, none⟩)]]) (by kernel_rfl) (by kernel_rfl) Try.func46 rfl Try.ntmps46 (by kernel_rfl) (fun Fs hq => ?_)
 refine qs (qr (oN 1 [(10, vi 0)] [0, 1, 2, 3, 4] ?_))
 refine oe (nt ?_)
 obtain ⟨r24, hL25, h26⟩ := bS h
 obtain ⟨k27, hk28, h26⟩ := brkS h26
 refine JC_cutP (τ := ((List Int)) × (Unit)) (fun y => k27 y.1 = some r) (fun y32 => [(0, .v (.slice a0_0 y32.1.length c0_0)), (4, .v (.func (.func 35) #[] #[.pointer (some ⟨g4_0, 0, none⟩), .pointer (some ⟨g4_1, 0, none⟩), .pointer (some ⟨g4_2, 0, none⟩)]))]) (fun y32 => []) (fun y32 => [SlRes e0_0 y32.1 a0_0 c0_0]) ?_ (fun y32 h33p => ?_)
 · refine qb (lp Unit hL25 (fun s21 y22 => [(10, vi s21.1), (0, .v (.slice a0_0 s21.2.length c0_0)), (1, vi x1), (2, vi x2), (3, vi x3), (4, .v (.func (.func 35) #[] #[.pointer (some ⟨g4_0, 0, none⟩), .pointer (some ⟨g4_1, 0, none⟩), .pointer (some ⟨g4_2, 0, none⟩)]))]) (fun s21 y22 => []) (fun s21 y22 => [SlRes e0_0 s21.2 a0_0 c0_0]) () [10, 0, 1, 2, 3, 4] [0] 0 (fun s21 y22 t23 h29 hd30 => ?_))
   refine qs (qs (qr (oN 3 [(13, vb (decide (s21.1 < x3)))] [10, 0, 1, 2, 3, 4] ?_)))
   refine oe (nt (cC h29 (fun h35 => ?_) (fun h36 => ?_)))
   · refine qk (nt (qs (qb ?_)))
     obtain ⟨x37, hx38, h39⟩ := bS h35
     obtain ⟨x40, hx41, h42⟩ := bS h39
     obtain ⟨x43, hx44, h45⟩ := bS h42
     obtain ⟨l46, hm47, h48⟩ := bS h45
     replace hm47 := (sI hm47).symm
     have hl49 := len_set hm47
     obtain ⟨x50, hx51, h52⟩ := bS h48
     obtain ⟨l53, hm54, h55⟩ := bS h52
     replace hm54 := (sI hm54).symm
     have hl56 := len_set hm54
     refine JC_cut (τ := Unit) (fun _ => [(10, vi s21.1), (0, .v (.slice a0_0 l53.length c0_0)), (1, vi x1), (2, vi x2), (3, vi x3), (4, .v (.func (.func 35) #[] #[.pointer (some ⟨g4_0, 0, none⟩), .pointer (some ⟨g4_1, 0, none⟩), .pointer (some ⟨g4_2, 0, none⟩)]))]) (fun _ => []) (fun _ => [SlRes e0_0 l53 a0_0 c0_0]) ?_ (fun _ => ?_)
     · refine jw [10, 0, 1, 2, 3, 4] [0] ?_
       refine JC_heldN (ks := []) (Rk := []) 24 (by kernel_rfl) (by kernel_rfl) ?_
       refine htq 0 (.v (.slice a0_0 s21.2.length c0_0)) [] ?_
       refine htq 1 (vi x1) [] ?_
       refine htq 2 (vi s21.1) [] ?_
       refine htq 3 (vi (w64 (x1 + s21.1))) [] ?_
       refine hk [19, 16, 10, 0, 1, 2, 3, 4] ?_
       refine htq 4 (.v (.slice a0_0 s21.2.length c0_0)) [] ?_
       refine htq 5 (vi x2) [] ?_
       refine htq 6 (vi s21.1) [] ?_
       refine htq 7 (vi (w64 (x2 + s21.1))) [] ?_
       refine hk [23, 20, 19, 16, 10, 0, 1, 2, 3, 4] ?_
       refine htq 8 (.v (.slice a0_0 s21.2.length c0_0)) [] ?_
       refine htq 9 (vi x2) [] ?_
       refine htq 10 (vi s21.1) [] ?_
       refine htq 11 (vi (w64 (x2 + s21.1))) [] ?_
       refine hk [27, 24, 23, 20, 19, 16, 10, 0, 1, 2, 3, 4] ?_
       refine htq 14 (.v (.slice a0_0 s21.2.length c0_0)) [] ?_
       refine htq 15 (vi x1) [] ?_
       refine htq 16 (vi s21.1) [] ?_
       refine htq 17 (vi (w64 (x1 + s21.1))) [] ?_
       refine hk [33, 30, 27, 24, 23, 20, 19, 16, 10, 0, 1, 2, 3, 4] ?_
       refine ha2 12 18 ?_ ?_
       · refine hi (fun γ0 δ hm => ?_)
         refine JG_index (by kernel_rfl) (d := a0_0) (m := s21.2.length) (j := (w64 (x2 + s21.1))) (s := 1) (by kernel_rfl) (fun w hs => (hs.view 0 rfl)) rfl hx38 rfl ?_
         refine gn hm [28, 33, 30, 23, 20, 19, 16, 10, 0, 1, 2, 3, 4] [] ?_
         refine ha2 13 18 ?_ ?_
         · refine hi (fun γ0 δ hm => ?_)
           refine JG_loadq (by kernel_rfl) (t := 3) (d := a0_0) (Int.toNat (w64 (x2 + s21.1)) * 1) 0 (by kernel_rfl) (cs := [.int .i64 x37]) (v := .int .i64 x37) (fun w hs => (hs.view 0 rfl).flatq hx38) (by kernel_rfl) rfl ?_
           refine gn hm [29, 33, 30, 23, 20, 19, 16, 10, 0, 1, 2, 3, 4] [] ?_
           refine ha1 18 ?_
           refine hi (fun γ0 δ hm => ?_)
           refine JG_index (by kernel_rfl) (d := a0_0) (m := s21.2.length) (j := (w64 (x1 + s21.1))) (s := 1) (by kernel_rfl) (fun w hs => (hs.view 0 rfl)) rfl hx41 rfl ?_
           refine gn hm [34, 29, 23, 20, 19, 16, 10, 0, 1, 2, 3, 4] [] ?_
           refine ha1 19 ?_
           refine hi (fun γ0 δ hm => ?_)
           refine JG_loadq (by kernel_rfl) (t := 3) (d := a0_0) (Int.toNat (w64 (x1 + s21.1)) * 1) 0 (by kernel_rfl) (cs := [.int .i64 x40]) (v := .int .i64 x40) (fun w hs => (hs.view 0 rfl).flatq hx41) (by kernel_rfl) rfl ?_
           refine gn hm [35, 29, 23, 20, 19, 16, 10, 0, 1, 2, 3, 4] [] ?_
           refine ha1 20 ?_
           refine hi (fun γ0 δ hm => ?_)
           refine JG_index (by kernel_rfl) (d := a0_0) (m := s21.2.length) (j := (w64 (x1 + s21.1))) (s := 1) (by kernel_rfl) (fun w hs => (hs.view 0 rfl)) rfl hx44 rfl ?_
           refine gn hm [36, 35, 29, 23, 20, 10, 0, 1, 2, 3, 4] [] ?_
           refine ha1 21 ?_
           refine hi (fun γ0 δ hm => ?_)
           refine JG_storeq (α := Int) (d := a0_0) (vs := [.int .i64 x37]) (j := (w64 (x1 + s21.1))) (x' := x37) (by kernel_rfl) 0 (by kernel_rfl) hx44 (Rc := []) (Rr := []) rfl (by kernel_rfl) (fun w c F Fs ho _ _ => own_flat_set (by kernel_rfl) ho) hm47 (sl' := [(36, .q a0_0 (Int.toNat (w64 (x1 + s21.1)) * 1)), (35, vi x40), (29, vi x37), (23, vi (w64 (x2 + s21.1))), (20, .v (.slice a0_0 s21.2.length c0_0)), (10, vi s21.1), (0, .v (.slice a0_0 s21.2.length c0_0)), (1, vi x1), (2, vi x2), (3, vi x3), (4, .v (.func (.func 35) #[] #[.pointer (some ⟨g4_0, 0, none⟩), .pointer (some ⟨g4_1, 0, none⟩), .pointer (some ⟨g4_2, 0, none⟩)]))]) (by kernel_rfl) ?_
           refine KG_eqE (sl' := [(36, .q a0_0 (Int.toNat (w64 (x1 + s21.1)) * 1)), (35, vi x40), (29, vi x37), (23, vi (w64 (x2 + s21.1))), (20, .v (.slice a0_0 l46.length c0_0)), (10, vi s21.1), (0, .v (.slice a0_0 l46.length c0_0)), (1, vi x1), (2, vi x2), (3, vi x3), (4, .v (.func (.func 35) #[] #[.pointer (some ⟨g4_0, 0, none⟩), .pointer (some ⟨g4_1, 0, none⟩), .pointer (some ⟨g4_2, 0, none⟩)]))]) (bx' := []) (by simp only [hl49]) rfl ?_
           refine gn hm [35, 23, 20, 10, 0, 1, 2, 3, 4] [] ?_
           refine ha1 22 ?_
           refine hi (fun γ0 δ hm => ?_)
           refine JG_index (by kernel_rfl) (d := a0_0) (m := l46.length) (j := (w64 (x2 + s21.1))) (s := 1) (by kernel_rfl) (fun w hs => (hs.view 0 rfl)) rfl hx51 rfl ?_
           refine gn hm [37, 35, 10, 0, 1, 2, 3, 4] [] ?_
           refine ha1 23 ?_
           refine hi (fun γ0 δ hm => ?_)
           refine JG_storeq (α := Int) (d := a0_0) (vs := [.int .i64 x40]) (j := (w64 (x2 + s21.1))) (x' := x40) (by kernel_rfl) 0 (by kernel_rfl) hx51 (Rc := []) (Rr := []) rfl (by kernel_rfl) (fun w c F Fs ho _ _ => own_flat_set (by kernel_rfl) ho) hm54 (sl' := [(37, .q a0_0 (Int.toNat (w64 (x2 + s21.1)) * 1)), (35, vi x40), (10, vi s21.1), (0, .v (.slice a0_0 l46.length c0_0)), (1, vi x1), (2, vi x2), (3, vi x3), (4, .v (.func (.func 35) #[] #[.pointer (some ⟨g4_0, 0, none⟩), .pointer (some ⟨g4_1, 0, none⟩), .pointer (some ⟨g4_2, 0, none⟩)]))]) (by kernel_rfl) ?_
           refine KG_eqE (sl' := [(37, .q a0_0 (Int.toNat (w64 (x2 + s21.1)) * 1)), (35, vi x40), (10, vi s21.1), (0, .v (.slice a0_0 l53.length c0_0)), (1, vi x1), (2, vi x2), (3, vi x3), (4, .v (.func (.func 35) #[] #[.pointer (some ⟨g4_0, 0, none⟩), .pointer (some ⟨g4_1, 0, none⟩), .pointer (some ⟨g4_2, 0, none⟩)]))]) (bx' := []) (by simp only [hl56]) rfl ?_
           refine gn hm [10, 0, 1, 2, 3, 4] [] ?_
           exact hd () [10, 0, 1, 2, 3, 4] [0] 0
         · refine hi (fun γ0 δ hm => ?_)
           refine JG_index (by kernel_rfl) (d := a0_0) (m := s21.2.length) (j := (w64 (x1 + s21.1))) (s := 1) (by kernel_rfl) (fun w hs => (hs.view 0 rfl)) rfl hx41 rfl ?_
           refine gn hm [34, 28, 23, 20, 19, 16, 10, 0, 1, 2, 3, 4] [] ?_
           refine ha2 13 19 ?_ ?_
           · refine hi (fun γ0 δ hm => ?_)
             refine JG_loadq (by kernel_rfl) (t := 3) (d := a0_0) (Int.toNat (w64 (x2 + s21.1)) * 1) 0 (by kernel_rfl) (cs := [.int .i64 x37]) (v := .int .i64 x37) (fun w hs => (hs.view 0 rfl).flatq hx38) (by kernel_rfl) rfl ?_
             refine gn hm [29, 34, 23, 20, 19, 16, 10, 0, 1, 2, 3, 4] [] ?_
             refine ha1 19 ?_
             refine hi (fun γ0 δ hm => ?_)
             refine JG_loadq (by kernel_rfl) (t := 3) (d := a0_0) (Int.toNat (w64 (x1 + s21.1)) * 1) 0 (by kernel_rfl) (cs := [.int .i64 x40]) (v := .int .i64 x40) (fun w hs => (hs.view 0 rfl).flatq hx41) (by kernel_rfl) rfl ?_
             refine gn hm [35, 29, 23, 20, 19, 16, 10, 0, 1, 2, 3, 4] [] ?_
             refine ha1 20 ?_
             refine hi (fun γ0 δ hm => ?_)
             refine JG_index (by kernel_rfl) (d := a0_0) (m := s21.2.length) (j := (w64 (x1 + s21.1))) (s := 1) (by kernel_rfl) (fun w hs => (hs.view 0 rfl)) rfl hx44 rfl ?_
             refine gn hm [36, 35, 29, 23, 20, 10, 0, 1, 2, 3, 4] [] ?_
             refine ha1 21 ?_
             refine hi (fun γ0 δ hm => ?_)
             refine JG_storeq (α := Int) (d := a0_0) (vs := [.int .i64 x37]) (j := (w64 (x1 + s21.1))) (x' := x37) (by kernel_rfl) 0 (by kernel_rfl) hx44 (Rc := []) (Rr := []) rfl (by kernel_rfl) (fun w c F Fs ho _ _ => own_flat_set (by kernel_rfl) ho) hm47 (sl' := [(36, .q a0_0 (Int.toNat (w64 (x1 + s21.1)) * 1)), (35, vi x40), (29, vi x37), (23, vi (w64 (x2 + s21.1))), (20, .v (.slice a0_0 s21.2.length c0_0)), (10, vi s21.1), (0, .v (.slice a0_0 s21.2.length c0_0)), (1, vi x1), (2, vi x2), (3, vi x3), (4, .v (.func (.func 35) #[] #[.pointer (some ⟨g4_0, 0, none⟩), .pointer (some ⟨g4_1, 0, none⟩), .pointer (some ⟨g4_2, 0, none⟩)]))]) (by kernel_rfl) ?_
             refine KG_eqE (sl' := [(36, .q a0_0 (Int.toNat (w64 (x1 + s21.1)) * 1)), (35, vi x40), (29, vi x37), (23, vi (w64 (x2 + s21.1))), (20, .v (.slice a0_0 l46.length c0_0)), (10, vi s21.1), (0, .v (.slice a0_0 l46.length c0_0)), (1, vi x1), (2, vi x2), (3, vi x3), (4, .v (.func (.func 35) #[] #[.pointer (some ⟨g4_0, 0, none⟩), .pointer (some ⟨g4_1, 0, none⟩), .pointer (some ⟨g4_2, 0, none⟩)]))]) (bx' := []) (by simp only [hl49]) rfl ?_
             refine gn hm [35, 23, 20, 10, 0, 1, 2, 3, 4] [] ?_
             refine ha1 22 ?_
             refine hi (fun γ0 δ hm => ?_)
             refine JG_index (by kernel_rfl) (d := a0_0) (m := l46.length) (j := (w64 (x2 + s21.1))) (s := 1) (by kernel_rfl) (fun w hs => (hs.view 0 rfl)) rfl hx51 rfl ?_
             refine gn hm [37, 35, 10, 0, 1, 2, 3, 4] [] ?_
             refine ha1 23 ?_
             refine hi (fun γ0 δ hm => ?_)
             refine JG_storeq (α := Int) (d := a0_0) (vs := [.int .i64 x40]) (j := (w64 (x2 + s21.1))) (x' := x40) (by kernel_rfl) 0 (by kernel_rfl) hx51 (Rc := []) (Rr := []) rfl (by kernel_rfl) (fun w c F Fs ho _ _ => own_flat_set (by kernel_rfl) ho) hm54 (sl' := [(37, .q a0_0 (Int.toNat (w64 (x2 + s21.1)) * 1)), (35, vi x40), (10, vi s21.1), (0, .v (.slice a0_0 l46.length c0_0)), (1, vi x1), (2, vi x2), (3, vi x3), (4, .v (.func (.func 35) #[] #[.pointer (some ⟨g4_0, 0, none⟩), .pointer (some ⟨g4_1, 0, none⟩), .pointer (some ⟨g4_2, 0, none⟩)]))]) (by kernel_rfl) ?_
             refine KG_eqE (sl' := [(37, .q a0_0 (Int.toNat (w64 (x2 + s21.1)) * 1)), (35, vi x40), (10, vi s21.1), (0, .v (.slice a0_0 l53.length c0_0)), (1, vi x1), (2, vi x2), (3, vi x3), (4, .v (.func (.func 35) #[] #[.pointer (some ⟨g4_0, 0, none⟩), .pointer (some ⟨g4_1, 0, none⟩), .pointer (some ⟨g4_2, 0, none⟩)]))]) (bx' := []) (by simp only [hl56]) rfl ?_
             refine gn hm [10, 0, 1, 2, 3, 4] [] ?_
             exact hd () [10, 0, 1, 2, 3, 4] [0] 0
           · refine hi (fun γ0 δ hm => ?_)
             refine JG_loadq (by kernel_rfl) (t := 3) (d := a0_0) (Int.toNat (w64 (x1 + s21.1)) * 1) 0 (by kernel_rfl) (cs := [.int .i64 x40]) (v := .int .i64 x40) (fun w hs => (hs.view 0 rfl).flatq hx41) (by kernel_rfl) rfl ?_
             refine gn hm [35, 28, 23, 20, 19, 16, 10, 0, 1, 2, 3, 4] [] ?_
             refine ha1 13 ?_
             refine hi (fun γ0 δ hm => ?_)
             refine JG_loadq (by kernel_rfl) (t := 3) (d := a0_0) (Int.toNat (w64 (x2 + s21.1)) * 1) 0 (by kernel_rfl) (cs := [.int .i64 x37]) (v := .int .i64 x37) (fun w hs => (hs.view 0 rfl).flatq hx38) (by kernel_rfl) rfl ?_
             refine gn hm [29, 35, 23, 20, 19, 16, 10, 0, 1, 2, 3, 4] [] ?_
             refine ha1 20 ?_
             refine hi (fun γ0 δ hm => ?_)
             refine JG_index (by kernel_rfl) (d := a0_0) (m := s21.2.length) (j := (w64 (x1 + s21.1))) (s := 1) (by kernel_rfl) (fun w hs => (hs.view 0 rfl)) rfl hx44 rfl ?_
             refine gn hm [36, 29, 35, 23, 20, 10, 0, 1, 2, 3, 4] [] ?_
             refine ha1 21 ?_
             refine hi (fun γ0 δ hm => ?_)
             refine JG_storeq (α := Int) (d := a0_0) (vs := [.int .i64 x37]) (j := (w64 (x1 + s21.1))) (x' := x37) (by kernel_rfl) 0 (by kernel_rfl) hx44 (Rc := []) (Rr := []) rfl (by kernel_rfl) (fun w c F Fs ho _ _ => own_flat_set (by kernel_rfl) ho) hm47 (sl' := [(36, .q a0_0 (Int.toNat (w64 (x1 + s21.1)) * 1)), (29, vi x37), (35, vi x40), (23, vi (w64 (x2 + s21.1))), (20, .v (.slice a0_0 s21.2.length c0_0)), (10, vi s21.1), (0, .v (.slice a0_0 s21.2.length c0_0)), (1, vi x1), (2, vi x2), (3, vi x3), (4, .v (.func (.func 35) #[] #[.pointer (some ⟨g4_0, 0, none⟩), .pointer (some ⟨g4_1, 0, none⟩), .pointer (some ⟨g4_2, 0, none⟩)]))]) (by kernel_rfl) ?_
             refine KG_eqE (sl' := [(36, .q a0_0 (Int.toNat (w64 (x1 + s21.1)) * 1)), (29, vi x37), (35, vi x40), (23, vi (w64 (x2 + s21.1))), (20, .v (.slice a0_0 l46.length c0_0)), (10, vi s21.1), (0, .v (.slice a0_0 l46.length c0_0)), (1, vi x1), (2, vi x2), (3, vi x3), (4, .v (.func (.func 35) #[] #[.pointer (some ⟨g4_0, 0, none⟩), .pointer (some ⟨g4_1, 0, none⟩), .pointer (some ⟨g4_2, 0, none⟩)]))]) (bx' := []) (by simp only [hl49]) rfl ?_
             refine gn hm [35, 23, 20, 10, 0, 1, 2, 3, 4] [] ?_
             refine ha1 22 ?_
             refine hi (fun γ0 δ hm => ?_)
             refine JG_index (by kernel_rfl) (d := a0_0) (m := l46.length) (j := (w64 (x2 + s21.1))) (s := 1) (by kernel_rfl) (fun w hs => (hs.view 0 rfl)) rfl hx51 rfl ?_
             refine gn hm [37, 35, 10, 0, 1, 2, 3, 4] [] ?_
             refine ha1 23 ?_
             refine hi (fun γ0 δ hm => ?_)
             refine JG_storeq (α := Int) (d := a0_0) (vs := [.int .i64 x40]) (j := (w64 (x2 + s21.1))) (x' := x40) (by kernel_rfl) 0 (by kernel_rfl) hx51 (Rc := []) (Rr := []) rfl (by kernel_rfl) (fun w c F Fs ho _ _ => own_flat_set (by kernel_rfl) ho) hm54 (sl' := [(37, .q a0_0 (Int.toNat (w64 (x2 + s21.1)) * 1)), (35, vi x40), (10, vi s21.1), (0, .v (.slice a0_0 l46.length c0_0)), (1, vi x1), (2, vi x2), (3, vi x3), (4, .v (.func (.func 35) #[] #[.pointer (some ⟨g4_0, 0, none⟩), .pointer (some ⟨g4_1, 0, none⟩), .pointer (some ⟨g4_2, 0, none⟩)]))]) (by kernel_rfl) ?_
             refine KG_eqE (sl' := [(37, .q a0_0 (Int.toNat (w64 (x2 + s21.1)) * 1)), (35, vi x40), (10, vi s21.1), (0, .v (.slice a0_0 l53.length c0_0)), (1, vi x1), (2, vi x2), (3, vi x3), (4, .v (.func (.func 35) #[] #[.pointer (some ⟨g4_0, 0, none⟩), .pointer (some ⟨g4_1, 0, none⟩), .pointer (some ⟨g4_2, 0, none⟩)]))]) (bx' := []) (by simp only [hl56]) rfl ?_
             refine gn hm [10, 0, 1, 2, 3, 4] [] ?_
             exact hd () [10, 0, 1, 2, 3, 4] [0] 0
       · refine hi (fun γ0 δ hm => ?_)
         refine JG_index (by kernel_rfl) (d := a0_0) (m := s21.2.length) (j := (w64 (x1 + s21.1))) (s := 1) (by kernel_rfl) (fun w hs => (hs.view 0 rfl)) rfl hx41 rfl ?_
         refine gn hm [34, 27, 24, 23, 20, 19, 16, 10, 0, 1, 2, 3, 4] [] ?_
         refine ha2 12 19 ?_ ?_
         · refine hi (fun γ0 δ hm => ?_)
           refine JG_index (by kernel_rfl) (d := a0_0) (m := s21.2.length) (j := (w64 (x2 + s21.1))) (s := 1) (by kernel_rfl) (fun w hs => (hs.view 0 rfl)) rfl hx38 rfl ?_
           refine gn hm [28, 34, 23, 20, 19, 16, 10, 0, 1, 2, 3, 4] [] ?_
           refine ha2 13 19 ?_ ?_
           · refine hi (fun γ0 δ hm => ?_)
             refine JG_loadq (by kernel_rfl) (t := 3) (d := a0_0) (Int.toNat (w64 (x2 + s21.1)) * 1) 0 (by kernel_rfl) (cs := [.int .i64 x37]) (v := .int .i64 x37) (fun w hs => (hs.view 0 rfl).flatq hx38) (by kernel_rfl) rfl ?_
             refine gn hm [29, 34, 23, 20, 19, 16, 10, 0, 1, 2, 3, 4] [] ?_
             refine ha1 19 ?_
             refine hi (fun γ0 δ hm => ?_)
             refine JG_loadq (by kernel_rfl) (t := 3) (d := a0_0) (Int.toNat (w64 (x1 + s21.1)) * 1) 0 (by kernel_rfl) (cs := [.int .i64 x40]) (v := .int .i64 x40) (fun w hs => (hs.view 0 rfl).flatq hx41) (by kernel_rfl) rfl ?_
             refine gn hm [35, 29, 23, 20, 19, 16, 10, 0, 1, 2, 3, 4] [] ?_
             refine ha1 20 ?_
             refine hi (fun γ0 δ hm => ?_)
             refine JG_index (by kernel_rfl) (d := a0_0) (m := s21.2.length) (j := (w64 (x1 + s21.1))) (s := 1) (by kernel_rfl) (fun w hs => (hs.view 0 rfl)) rfl hx44 rfl ?_
             refine gn hm [36, 35, 29, 23, 20, 10, 0, 1, 2, 3, 4] [] ?_
             refine ha1 21 ?_
             refine hi (fun γ0 δ hm => ?_)
             refine JG_storeq (α := Int) (d := a0_0) (vs := [.int .i64 x37]) (j := (w64 (x1 + s21.1))) (x' := x37) (by kernel_rfl) 0 (by kernel_rfl) hx44 (Rc := []) (Rr := []) rfl (by kernel_rfl) (fun w c F Fs ho _ _ => own_flat_set (by kernel_rfl) ho) hm47 (sl' := [(36, .q a0_0 (Int.toNat (w64 (x1 + s21.1)) * 1)), (35, vi x40), (29, vi x37), (23, vi (w64 (x2 + s21.1))), (20, .v (.slice a0_0 s21.2.length c0_0)), (10, vi s21.1), (0, .v (.slice a0_0 s21.2.length c0_0)), (1, vi x1), (2, vi x2), (3, vi x3), (4, .v (.func (.func 35) #[] #[.pointer (some ⟨g4_0, 0, none⟩), .pointer (some ⟨g4_1, 0, none⟩), .pointer (some ⟨g4_2, 0, none⟩)]))]) (by kernel_rfl) ?_
             refine KG_eqE (sl' := [(36, .q a0_0 (Int.toNat (w64 (x1 + s21.1)) * 1)), (35, vi x40), (29, vi x37), (23, vi (w64 (x2 + s21.1))), (20, .v (.slice a0_0 l46.length c0_0)), (10, vi s21.1), (0, .v (.slice a0_0 l46.length c0_0)), (1, vi x1), (2, vi x2), (3, vi x3), (4, .v (.func (.func 35) #[] #[.pointer (some ⟨g4_0, 0, none⟩), .pointer (some ⟨g4_1, 0, none⟩), .pointer (some ⟨g4_2, 0, none⟩)]))]) (bx' := []) (by simp only [hl49]) rfl ?_
             refine gn hm [35, 23, 20, 10, 0, 1, 2, 3, 4] [] ?_
             refine ha1 22 ?_
             refine hi (fun γ0 δ hm => ?_)
             refine JG_index (by kernel_rfl) (d := a0_0) (m := l46.length) (j := (w64 (x2 + s21.1))) (s := 1) (by kernel_rfl) (fun w hs => (hs.view 0 rfl)) rfl hx51 rfl ?_
             refine gn hm [37, 35, 10, 0, 1, 2, 3, 4] [] ?_
             refine ha1 23 ?_
             refine hi (fun γ0 δ hm => ?_)
             refine JG_storeq (α := Int) (d := a0_0) (vs := [.int .i64 x40]) (j := (w64 (x2 + s21.1))) (x' := x40) (by kernel_rfl) 0 (by kernel_rfl) hx51 (Rc := []) (Rr := []) rfl (by kernel_rfl) (fun w c F Fs ho _ _ => own_flat_set (by kernel_rfl) ho) hm54 (sl' := [(37, .q a0_0 (Int.toNat (w64 (x2 + s21.1)) * 1)), (35, vi x40), (10, vi s21.1), (0, .v (.slice a0_0 l46.length c0_0)), (1, vi x1), (2, vi x2), (3, vi x3), (4, .v (.func (.func 35) #[] #[.pointer (some ⟨g4_0, 0, none⟩), .pointer (some ⟨g4_1, 0, none⟩), .pointer (some ⟨g4_2, 0, none⟩)]))]) (by kernel_rfl) ?_
             refine KG_eqE (sl' := [(37, .q a0_0 (Int.toNat (w64 (x2 + s21.1)) * 1)), (35, vi x40), (10, vi s21.1), (0, .v (.slice a0_0 l53.length c0_0)), (1, vi x1), (2, vi x2), (3, vi x3), (4, .v (.func (.func 35) #[] #[.pointer (some ⟨g4_0, 0, none⟩), .pointer (some ⟨g4_1, 0, none⟩), .pointer (some ⟨g4_2, 0, none⟩)]))]) (bx' := []) (by simp only [hl56]) rfl ?_
             refine gn hm [10, 0, 1, 2, 3, 4] [] ?_
             exact hd () [10, 0, 1, 2, 3, 4] [0] 0
           · refine hi (fun γ0 δ hm => ?_)
             refine JG_loadq (by kernel_rfl) (t := 3) (d := a0_0) (Int.toNat (w64 (x1 + s21.1)) * 1) 0 (by kernel_rfl) (cs := [.int .i64 x40]) (v := .int .i64 x40) (fun w hs => (hs.view 0 rfl).flatq hx41) (by kernel_rfl) rfl ?_
             refine gn hm [35, 28, 23, 20, 19, 16, 10, 0, 1, 2, 3, 4] [] ?_
             refine ha1 13 ?_
             refine hi (fun γ0 δ hm => ?_)
             refine JG_loadq (by kernel_rfl) (t := 3) (d := a0_0) (Int.toNat (w64 (x2 + s21.1)) * 1) 0 (by kernel_rfl) (cs := [.int .i64 x37]) (v := .int .i64 x37) (fun w hs => (hs.view 0 rfl).flatq hx38) (by kernel_rfl) rfl ?_
             refine gn hm [29, 35, 23, 20, 19, 16, 10, 0, 1, 2, 3, 4] [] ?_
             refine ha1 20 ?_
             refine hi (fun γ0 δ hm => ?_)
             refine JG_index (by kernel_rfl) (d := a0_0) (m := s21.2.length) (j := (w64 (x1 + s21.1))) (s := 1) (by kernel_rfl) (fun w hs => (hs.view 0 rfl)) rfl hx44 rfl ?_
             refine gn hm [36, 29, 35, 23, 20, 10, 0, 1, 2, 3, 4] [] ?_
             refine ha1 21 ?_
             refine hi (fun γ0 δ hm => ?_)
             refine JG_storeq (α := Int) (d := a0_0) (vs := [.int .i64 x37]) (j := (w64 (x1 + s21.1))) (x' := x37) (by kernel_rfl) 0 (by kernel_rfl) hx44 (Rc := []) (Rr := []) rfl (by kernel_rfl) (fun w c F Fs ho _ _ => own_flat_set (by kernel_rfl) ho) hm47 (sl' := [(36, .q a0_0 (Int.toNat (w64 (x1 + s21.1)) * 1)), (29, vi x37), (35, vi x40), (23, vi (w64 (x2 + s21.1))), (20, .v (.slice a0_0 s21.2.length c0_0)), (10, vi s21.1), (0, .v (.slice a0_0 s21.2.length c0_0)), (1, vi x1), (2, vi x2), (3, vi x3), (4, .v (.func (.func 35) #[] #[.pointer (some ⟨g4_0, 0, none⟩), .pointer (some ⟨g4_1, 0, none⟩), .pointer (some ⟨g4_2, 0, none⟩)]))]) (by kernel_rfl) ?_
             refine KG_eqE (sl' := [(36, .q a0_0 (Int.toNat (w64 (x1 + s21.1)) * 1)), (29, vi x37), (35, vi x40), (23, vi (w64 (x2 + s21.1))), (20, .v (.slice a0_0 l46.length c0_0)), (10, vi s21.1), (0, .v (.slice a0_0 l46.length c0_0)), (1, vi x1), (2, vi x2), (3, vi x3), (4, .v (.func (.func 35) #[] #[.pointer (some ⟨g4_0, 0, none⟩), .pointer (some ⟨g4_1, 0, none⟩), .pointer (some ⟨g4_2, 0, none⟩)]))]) (bx' := []) (by simp only [hl49]) rfl ?_
             refine gn hm [35, 23, 20, 10, 0, 1, 2, 3, 4] [] ?_
             refine ha1 22 ?_
             refine hi (fun γ0 δ hm => ?_)
             refine JG_index (by kernel_rfl) (d := a0_0) (m := l46.length) (j := (w64 (x2 + s21.1))) (s := 1) (by kernel_rfl) (fun w hs => (hs.view 0 rfl)) rfl hx51 rfl ?_
             refine gn hm [37, 35, 10, 0, 1, 2, 3, 4] [] ?_
             refine ha1 23 ?_
             refine hi (fun γ0 δ hm => ?_)
             refine JG_storeq (α := Int) (d := a0_0) (vs := [.int .i64 x40]) (j := (w64 (x2 + s21.1))) (x' := x40) (by kernel_rfl) 0 (by kernel_rfl) hx51 (Rc := []) (Rr := []) rfl (by kernel_rfl) (fun w c F Fs ho _ _ => own_flat_set (by kernel_rfl) ho) hm54 (sl' := [(37, .q a0_0 (Int.toNat (w64 (x2 + s21.1)) * 1)), (35, vi x40), (10, vi s21.1), (0, .v (.slice a0_0 l46.length c0_0)), (1, vi x1), (2, vi x2), (3, vi x3), (4, .v (.func (.func 35) #[] #[.pointer (some ⟨g4_0, 0, none⟩), .pointer (some ⟨g4_1, 0, none⟩), .pointer (some ⟨g4_2, 0, none⟩)]))]) (by kernel_rfl) ?_
             refine KG_eqE (sl' := [(37, .q a0_0 (Int.toNat (w64 (x2 + s21.1)) * 1)), (35, vi x40), (10, vi s21.1), (0, .v (.slice a0_0 l53.length c0_0)), (1, vi x1), (2, vi x2), (3, vi x3), (4, .v (.func (.func 35) #[] #[.pointer (some ⟨g4_0, 0, none⟩), .pointer (some ⟨g4_1, 0, none⟩), .pointer (some ⟨g4_2, 0, none⟩)]))]) (bx' := []) (by simp only [hl56]) rfl ?_
             refine gn hm [10, 0, 1, 2, 3, 4] [] ?_
             exact hd () [10, 0, 1, 2, 3, 4] [0] 0
         · refine hi (fun γ0 δ hm => ?_)
           refine JG_loadq (by kernel_rfl) (t := 3) (d := a0_0) (Int.toNat (w64 (x1 + s21.1)) * 1) 0 (by kernel_rfl) (cs := [.int .i64 x40]) (v := .int .i64 x40) (fun w hs => (hs.view 0 rfl).flatq hx41) (by kernel_rfl) rfl ?_
           refine gn hm [35, 27, 24, 23, 20, 19, 16, 10, 0, 1, 2, 3, 4] [] ?_
           refine ha1 12 ?_
           refine hi (fun γ0 δ hm => ?_)
           refine JG_index (by kernel_rfl) (d := a0_0) (m := s21.2.length) (j := (w64 (x2 + s21.1))) (s := 1) (by kernel_rfl) (fun w hs => (hs.view 0 rfl)) rfl hx38 rfl ?_
           refine gn hm [28, 35, 23, 20, 19, 16, 10, 0, 1, 2, 3, 4] [] ?_
           refine ha1 13 ?_
           refine hi (fun γ0 δ hm => ?_)
           refine JG_loadq (by kernel_rfl) (t := 3) (d := a0_0) (Int.toNat (w64 (x2 + s21.1)) * 1) 0 (by kernel_rfl) (cs := [.int .i64 x37]) (v := .int .i64 x37) (fun w hs => (hs.view 0 rfl).flatq hx38) (by kernel_rfl) rfl ?_
           refine gn hm [29, 35, 23, 20, 19, 16, 10, 0, 1, 2, 3, 4] [] ?_
           refine ha1 20 ?_
           refine hi (fun γ0 δ hm => ?_)
           refine JG_index (by kernel_rfl) (d := a0_0) (m := s21.2.length) (j := (w64 (x1 + s21.1))) (s := 1) (by kernel_rfl) (fun w hs => (hs.view 0 rfl)) rfl hx44 rfl ?_
           refine gn hm [36, 29, 35, 23, 20, 10, 0, 1, 2, 3, 4] [] ?_
           refine ha1 21 ?_
           refine hi (fun γ0 δ hm => ?_)
           refine JG_storeq (α := Int) (d := a0_0) (vs := [.int .i64 x37]) (j := (w64 (x1 + s21.1))) (x' := x37) (by kernel_rfl) 0 (by kernel_rfl) hx44 (Rc := []) (Rr := []) rfl (by kernel_rfl) (fun w c F Fs ho _ _ => own_flat_set (by kernel_rfl) ho) hm47 (sl' := [(36, .q a0_0 (Int.toNat (w64 (x1 + s21.1)) * 1)), (29, vi x37), (35, vi x40), (23, vi (w64 (x2 + s21.1))), (20, .v (.slice a0_0 s21.2.length c0_0)), (10, vi s21.1), (0, .v (.slice a0_0 s21.2.length c0_0)), (1, vi x1), (2, vi x2), (3, vi x3), (4, .v (.func (.func 35) #[] #[.pointer (some ⟨g4_0, 0, none⟩), .pointer (some ⟨g4_1, 0, none⟩), .pointer (some ⟨g4_2, 0, none⟩)]))]) (by kernel_rfl) ?_
           refine KG_eqE (sl' := [(36, .q a0_0 (Int.toNat (w64 (x1 + s21.1)) * 1)), (29, vi x37), (35, vi x40), (23, vi (w64 (x2 + s21.1))), (20, .v (.slice a0_0 l46.length c0_0)), (10, vi s21.1), (0, .v (.slice a0_0 l46.length c0_0)), (1, vi x1), (2, vi x2), (3, vi x3), (4, .v (.func (.func 35) #[] #[.pointer (some ⟨g4_0, 0, none⟩), .pointer (some ⟨g4_1, 0, none⟩), .pointer (some ⟨g4_2, 0, none⟩)]))]) (bx' := []) (by simp only [hl49]) rfl ?_
           refine gn hm [35, 23, 20, 10, 0, 1, 2, 3, 4] [] ?_
           refine ha1 22 ?_
           refine hi (fun γ0 δ hm => ?_)
           refine JG_index (by kernel_rfl) (d := a0_0) (m := l46.length) (j := (w64 (x2 + s21.1))) (s := 1) (by kernel_rfl) (fun w hs => (hs.view 0 rfl)) rfl hx51 rfl ?_
           refine gn hm [37, 35, 10, 0, 1, 2, 3, 4] [] ?_
           refine ha1 23 ?_
           refine hi (fun γ0 δ hm => ?_)
           refine JG_storeq (α := Int) (d := a0_0) (vs := [.int .i64 x40]) (j := (w64 (x2 + s21.1))) (x' := x40) (by kernel_rfl) 0 (by kernel_rfl) hx51 (Rc := []) (Rr := []) rfl (by kernel_rfl) (fun w c F Fs ho _ _ => own_flat_set (by kernel_rfl) ho) hm54 (sl' := [(37, .q a0_0 (Int.toNat (w64 (x2 + s21.1)) * 1)), (35, vi x40), (10, vi s21.1), (0, .v (.slice a0_0 l46.length c0_0)), (1, vi x1), (2, vi x2), (3, vi x3), (4, .v (.func (.func 35) #[] #[.pointer (some ⟨g4_0, 0, none⟩), .pointer (some ⟨g4_1, 0, none⟩), .pointer (some ⟨g4_2, 0, none⟩)]))]) (by kernel_rfl) ?_
           refine KG_eqE (sl' := [(37, .q a0_0 (Int.toNat (w64 (x2 + s21.1)) * 1)), (35, vi x40), (10, vi s21.1), (0, .v (.slice a0_0 l53.length c0_0)), (1, vi x1), (2, vi x2), (3, vi x3), (4, .v (.func (.func 35) #[] #[.pointer (some ⟨g4_0, 0, none⟩), .pointer (some ⟨g4_1, 0, none⟩), .pointer (some ⟨g4_2, 0, none⟩)]))]) (bx' := []) (by simp only [hl56]) rfl ?_
           refine gn hm [10, 0, 1, 2, 3, 4] [] ?_
           exact hd () [10, 0, 1, 2, 3, 4] [0] 0
     refine bn (nt (qr (oN 3 [(10, vi (w64 (s21.1 + 1)))] [0, 1, 2, 3, 4] ?_)))
     exact oe (ct h55 () [10, 0, 1, 2, 3, 4] [0] 0)
   refine qx (nx (nx (bh ?_)))
   have h58 := leafB hd30 h36 h26
   exact mp (s21.2, ()) h58 [0, 4] [0] 0
 have h33 := (congrFun hk28 _).symm.trans h33p
 refine JE_fall (vs := []) (by kernel_rfl) (fun γ w hs => ?_)
 rw [← sI h33]
 exact hs.turned (is := [0]) rfl

theorem c_slices_rotateCmpFunc_int__impl_Allocate_1 {W : World} {x0 : List Int} {a0_0 : Option Addr} {c0_0 : Nat} {e0_0 : TypeId} {x1 : Int} {x2 : Int} {x3 : Int} {g4_0 : Nat} {z4_0 : Int} {g4_1 : Nat} {z4_1 : List Int} {g4_2 : Nat} {z4_2 : Int} {r : (List Int)} (h : slices_rotateCmpFunc_int__impl_Allocate_1 x0 x1 x2 x3 z4_0 z4_1 z4_2 = some r)  :
    GivesMQ Try.prog (fun w => ∀ (q0 : Int) (q1 : Int) (r : Int), impl_Allocate_1 q0 q1 z4_0 z4_1 z4_2 = some r → Gives0 Try.prog 35 #[.int .i64 q0, .int .i64 q1, .pointer (some ⟨g4_0, 0, none⟩), .pointer (some ⟨g4_1, 0, none⟩), .pointer (some ⟨g4_2, 0, none⟩)] w (.int .i64 r)) 45 #[.slice a0_0 x0.length c0_0, .int .i64 x1, .int .i64 x2, .int .i64 x3, .func (.func 35) #[] #[.pointer (some ⟨g4_0, 0, none⟩), .pointer (some ⟨g4_1, 0, none⟩), .pointer (some ⟨g4_2, 0, none⟩)]] W [SlRes e0_0 x0 a0_0 c0_0] [SlRes e0_0 r a0_0 c0_0] (.tuple #[]) := by
 unfold slices_rotateCmpFunc_int__impl_Allocate_1 at h
 refine enterMQ [.v (.slice a0_0 x0.length c0_0), vi x1, vi x2, vi x3, .v (.func (.func 35) #[] #[.pointer (some ⟨g4_0, 0, none⟩), .pointer (some ⟨g4_1, 0, none⟩), .pointer (some ⟨g4_2, 0, none⟩)])] (args := [.slice a0_0 x0.length c0_0, .int .i64 x1, .int .i64 x2, .int .i64 x3, .func (.func 35) #[] #[.pointer (some ⟨g4_0, 0, none⟩), .pointer (some ⟨g4_1, 0, none⟩), .pointer (some ⟨g4_2, 0, none⟩)]]) (by kernel_rfl) (by kernel_rfl) Try.func45 rfl Try.ntmps45 (by kernel_rfl) (fun Fs hq => ?_)
 refine qs (qr (oN 4 [(10, vi (w64 (x2 - x1)))] [0, 2, 3, 4] ?_))
 refine oe (nt (qs (qr (oN 4 [(11, vi (w64 (x3 - x2)))] [10, 0, 2, 4] ?_))))
 refine oe (nt (qs ?_))
 obtain ⟨r24, hL25, h26⟩ := bS h
 obtain ⟨k27, hk28, h26⟩ := brkS h26
 refine JC_cutP (τ := (Int × (List Int) × Int) × (Unit)) (fun y => k27 y.1 = some r) (fun y32 => [(10, vi y32.1.1), (0, .v (.slice a0_0 y32.1.2.1.length c0_0)), (2, vi y32.1.2.2), (4, .v (.func (.func 35) #[] #[.pointer (some ⟨g4_0, 0, none⟩), .pointer (some ⟨g4_1, 0, none⟩), .pointer (some ⟨g4_2, 0, none⟩)]))]) (fun y32 => []) (fun y32 => [SlRes e0_0 y32.1.2.1 a0_0 c0_0]) ?_ (fun y32 h33p => ?_)
 · refine qb (lp Unit hL25 (fun s21 y22 => [(11, vi s21.1), (10, vi s21.2.1), (0, .v (.slice a0_0 s21.2.2.length c0_0)), (2, vi x2), (4, .v (.func (.func 35) #[] #[.pointer (some ⟨g4_0, 0, none⟩), .pointer (some ⟨g4_1, 0, none⟩), .pointer (some ⟨g4_2, 0, none⟩)]))]) (fun s21 y22 => []) (fun s21 y22 => [SlRes e0_0 s21.2.2 a0_0 c0_0]) () [11, 10, 0, 2, 4] [0] 0 (fun s21 y22 t23 h29 hd30 => ?_))
   refine qs (qs (qr (oN 3 [(20, vb (s21.2.1 != s21.1))] [11, 10, 0, 2, 4] ?_)))
   refine oe (nt (cC h29 (fun h43 => ?_) (fun h44 => ?_)))
   · refine qk (nt (qb (qs (qr (oN 3 [(23, vb (decide (s21.2.1 > s21.1)))] [11, 10, 0, 2, 4] ?_)))))
     refine oe (nt (cC h43 (fun h46 => ?_) (fun h47 => ?_)))
     · refine qs (qr (oN 7 [(30, .v (.func (.func 35) #[] #[.pointer (some ⟨g4_0, 0, none⟩), .pointer (some ⟨g4_1, 0, none⟩), .pointer (some ⟨g4_2, 0, none⟩)])), (29, vi s21.1), (28, vi x2), (27, vi (w64 (x2 - s21.2.1))), (24, .v (.slice a0_0 s21.2.2.length c0_0))] [11, 10, 0, 2, 4] ?_))
       obtain ⟨t48, h49, h50⟩ := bS h46
       obtain ⟨u52, hu53, h54⟩ := bS h50
       have hl55 := (sameLen_some hu53).symm
       refine JO_callMQ rfl (by kernel_rfl) (f := 46) (C := fun γ => (fun w => ∀ (q0 : Int) (q1 : Int) (r : Int), impl_Allocate_1 q0 q1 z4_0 z4_1 z4_2 = some r → Gives0 Try.prog 35 #[.int .i64 q0, .int .i64 q1, .pointer (some ⟨g4_0, 0, none⟩), .pointer (some ⟨g4_1, 0, none⟩), .pointer (some ⟨g4_2, 0, none⟩)] w (.int .i64 r))) (args := fun γ => #[.slice a0_0 s21.2.2.length c0_0, .int .i64 (w64 (x2 - s21.2.1)), .int .i64 x2, .int .i64 s21.1, .func (.func 35) #[] #[.pointer (some ⟨g4_0, 0, none⟩), .pointer (some ⟨g4_1, 0, none⟩), .pointer (some ⟨g4_2, 0, none⟩)]]) (fun γ => by kernel_rfl) (x := .tuple #[]) (Rin := [SlRes e0_0 s21.2.2 a0_0 c0_0]) (Rout := [SlRes e0_0 t48 a0_0 c0_0]) (Rr := []) rfl (fun γ w hs => (by have vv := c_slices_swapRangeCmpFunc_int__impl_Allocate_1 (e0_0 := e0_0) (a0_0 := a0_0) (c0_0 := c0_0) (g4_0 := g4_0) (g4_1 := g4_1) (g4_2 := g4_2) (W := w) h49; exact vv)) (fun γ w hk hb => hq w hk) (sl' := [(31, .v (.tuple #[])), (30, .v (.func (.func 35) #[] #[.pointer (some ⟨g4_0, 0, none⟩), .pointer (some ⟨g4_1, 0, none⟩), .pointer (some ⟨g4_2, 0, none⟩)])), (29, vi s21.1), (28, vi x2), (27, vi (w64 (x2 - s21.2.1))), (24, .v (.slice a0_0 s21.2.2.length c0_0)), (11, vi s21.1), (10, vi s21.2.1), (0, .v (.slice a0_0 s21.2.2.length c0_0)), (2, vi x2), (4, .v (.func (.func 35) #[] #[.pointer (some ⟨g4_0, 0, none⟩), .pointer (some ⟨g4_1, 0, none⟩), .pointer (some ⟨g4_2, 0, none⟩)]))]) (by kernel_rfl) ?_
       refine JO_eqE (sl' := [(31, .v (.tuple #[])), (30, .v (.func (.func 35) #[] #[.pointer (some ⟨g4_0, 0, none⟩), .pointer (some ⟨g4_1, 0, none⟩), .pointer (some ⟨g4_2, 0, none⟩)])), (29, vi s21.1), (28, vi x2), (27, vi (w64 (x2 - s21.2.1))), (24, .v (.slice a0_0 t48.length c0_0)), (11, vi s21.1), (10, vi s21.2.1), (0, .v (.slice a0_0 t48.length c0_0)), (2, vi x2), (4, .v (.func (.func 35) #[] #[.pointer (some ⟨g4_0, 0, none⟩), .pointer (some ⟨g4_1, 0, none⟩), .pointer (some ⟨g4_2, 0, none⟩)]))]) (bx' := []) (by simp only [hl55]) rfl ?_
       refine oe (nt (qr (oN 4 [(10, vi (w64 (s21.2.1 - s21.1)))] [11, 0, 2, 4] ?_)))
       exact oe (bn (ct h54 () [11, 10, 0, 2, 4] [0] 0))
     refine qs (qr (oN 11 [(45, .v (.func (.func 35) #[] #[.pointer (some ⟨g4_0, 0, none⟩), .pointer (some ⟨g4_1, 0, none⟩), .pointer (some ⟨g4_2, 0, none⟩)])), (44, vi s21.2.1), (43, vi (w64 ((w64 (x2 + s21.1)) - s21.2.1))), (38, vi (w64 (x2 - s21.2.1))), (35, .v (.slice a0_0 s21.2.2.length c0_0))] [11, 10, 0, 2, 4] ?_))
     obtain ⟨t56, h57, h58⟩ := bS h47
     obtain ⟨u60, hu61, h62⟩ := bS h58
     have hl63 := (sameLen_some hu61).symm
     refine JO_callMQ rfl (by kernel_rfl) (f := 46) (C := fun γ => (fun w => ∀ (q0 : Int) (q1 : Int) (r : Int), impl_Allocate_1 q0 q1 z4_0 z4_1 z4_2 = some r → Gives0 Try.prog 35 #[.int .i64 q0, .int .i64 q1, .pointer (some ⟨g4_0, 0, none⟩), .pointer (some ⟨g4_1, 0, none⟩), .pointer (some ⟨g4_2, 0, none⟩)] w (.int .i64 r))) (args := fun γ => #[.slice a0_0 s21.2.2.length c0_0, .int .i64 (w64 (x2 - s21.2.1)), .int .i64 (w64 ((w64 (x2 + s21.1)) - s21.2.1)), .int .i64 s21.2.1, .func (.func 35) #[] #[.pointer (some ⟨g4_0, 0, none⟩), .pointer (some ⟨g4_1, 0, none⟩), .pointer (some ⟨g4_2, 0, none⟩)]]) (fun γ => by kernel_rfl) (x := .tuple #[]) (Rin := [SlRes e0_0 s21.2.2 a0_0 c0_0]) (Rout := [SlRes e0_0 t56 a0_0 c0_0]) (Rr := []) rfl (fun γ w hs => (by have vv := c_slices_swapRangeCmpFunc_int__impl_Allocate_1 (e0_0 := e0_0) (a0_0 := a0_0) (c0_0 := c0_0) (g4_0 := g4_0) (g4_1 := g4_1) (g4_2 := g4_2) (W := w) h57; exact vv)) (fun γ w hk hb => hq w hk) (sl' := [(46, .v (.tuple #[])), (45, .v (.func (.func 35) #[] #[.pointer (some ⟨g4_0, 0, none⟩), .pointer (some ⟨g4_1, 0, none⟩), .pointer (some ⟨g4_2, 0, none⟩)])), (44, vi s21.2.1), (43, vi (w64 ((w64 (x2 + s21.1)) - s21.2.1))), (38, vi (w64 (x2 - s21.2.1))), (35, .v (.slice a0_0 s21.2.2.length c0_0)), (11, vi s21.1), (10, vi s21.2.1), (0, .v (.slice a0_0 s21.2.2.length c0_0)), (2, vi x2), (4, .v (.func (.func 35) #[] #[.pointer (some ⟨g4_0, 0, none⟩), .pointer (some ⟨g4_1, 0, none⟩), .pointer (some ⟨g4_2, 0, none⟩)]))]) (by kernel_rfl) ?_
     refine JO_eqE (sl' := [(46, .v (.tuple #[])), (45, .v (.func (.func 35) #[] #[.pointer (some ⟨g4_0, 0, none⟩), .pointer (some ⟨g4_1, 0, none⟩), .pointer (some ⟨g4_2, 0, none⟩)])), (44, vi s21.2.1), (43, vi (w64 ((w64 (x2 + s21.1)) - s21.2.1))), (38, vi (w64 (x2 - s21.2.1))), (35, .v (.slice a0_0 t56.length c0_0)), (11, vi s21.1), (10, vi s21.2.1), (0, .v (.slice a0_0 t56.length c0_0)), (2, vi x2), (4, .v (.func (.func 35) #[] #[.pointer (some ⟨g4_0, 0, none⟩), .pointer (some ⟨g4_1, 0, none⟩), .pointer (some ⟨g4_2, 0, none⟩)]))]) (bx' := []) (by simp only [hl63]) rfl ?_
     refine oe (nt (qr (oN 4 [(11, vi (w64 (s21.1 - s21.2.1)))] [10, 0, 2, 4] ?_)))
     exact oe (bn (ct h62 () [11, 10, 0, 2, 4] [0] 0))
   refine qx (nx (nx (bh ?_)))
   have h64 := leafB hd30 h44 h26
   exact mp ((s21.2.1, s21.2.2, x2), ()) h64 [10, 0, 2, 4] [0] 0
 have h33 := (congrFun hk28 _).symm.trans h33p
 refine nt (qr (oN 7 [(56, .v (.func (.func 35) #[] #[.pointer (some ⟨g4_0, 0, none⟩), .pointer (some ⟨g4_1, 0, none⟩), .pointer (some ⟨g4_2, 0, none⟩)])), (55, vi y32.1.1), (54, vi y32.1.2.2), (53, vi (w64 (y32.1.2.2 - y32.1.1))), (50, .v (.slice a0_0 y32.1.2.1.length c0_0))] [0, 4] ?_))
 obtain ⟨t34, h35, h36⟩ := bS h33
 obtain ⟨u38, hu39, h40⟩ := bS h36
 have hl41 := (sameLen_some hu39).symm
 refine JO_callMQ rfl (by kernel_rfl) (f := 46) (C := fun γ => (fun w => ∀ (q0 : Int) (q1 : Int) (r : Int), impl_Allocate_1 q0 q1 z4_0 z4_1 z4_2 = some r → Gives0 Try.prog 35 #[.int .i64 q0, .int .i64 q1, .pointer (some ⟨g4_0, 0, none⟩), .pointer (some ⟨g4_1, 0, none⟩), .pointer (some ⟨g4_2, 0, none⟩)] w (.int .i64 r))) (args := fun γ => #[.slice a0_0 y32.1.2.1.length c0_0, .int .i64 (w64 (y32.1.2.2 - y32.1.1)), .int .i64 y32.1.2.2, .int .i64 y32.1.1, .func (.func 35) #[] #[.pointer (some ⟨g4_0, 0, none⟩), .pointer (some ⟨g4_1, 0, none⟩), .pointer (some ⟨g4_2, 0, none⟩)]]) (fun γ => by kernel_rfl) (x := .tuple #[]) (Rin := [SlRes e0_0 y32.1.2.1 a0_0 c0_0]) (Rout := [SlRes e0_0 t34 a0_0 c0_0]) (Rr := []) rfl (fun γ w hs => (by have vv := c_slices_swapRangeCmpFunc_int__impl_Allocate_1 (e0_0 := e0_0) (a0_0 := a0_0) (c0_0 := c0_0) (g4_0 := g4_0) (g4_1 := g4_1) (g4_2 := g4_2) (W := w) h35; exact vv)) (fun γ w hk hb => hq w hk) (sl' := [(57, .v (.tuple #[])), (56, .v (.func (.func 35) #[] #[.pointer (some ⟨g4_0, 0, none⟩), .pointer (some ⟨g4_1, 0, none⟩), .pointer (some ⟨g4_2, 0, none⟩)])), (55, vi y32.1.1), (54, vi y32.1.2.2), (53, vi (w64 (y32.1.2.2 - y32.1.1))), (50, .v (.slice a0_0 y32.1.2.1.length c0_0)), (0, .v (.slice a0_0 y32.1.2.1.length c0_0)), (4, .v (.func (.func 35) #[] #[.pointer (some ⟨g4_0, 0, none⟩), .pointer (some ⟨g4_1, 0, none⟩), .pointer (some ⟨g4_2, 0, none⟩)]))]) (by kernel_rfl) ?_
 refine JO_eqE (sl' := [(57, .v (.tuple #[])), (56, .v (.func (.func 35) #[] #[.pointer (some ⟨g4_0, 0, none⟩), .pointer (some ⟨g4_1, 0, none⟩), .pointer (some ⟨g4_2, 0, none⟩)])), (55, vi y32.1.1), (54, vi y32.1.2.2), (53, vi (w64 (y32.1.2.2 - y32.1.1))), (50, .v (.slice a0_0 t34.length c0_0)), (0, .v (.slice a0_0 t34.length c0_0)), (4, .v (.func (.func 35) #[] #[.pointer (some ⟨g4_0, 0, none⟩), .pointer (some ⟨g4_1, 0, none⟩), .pointer (some ⟨g4_2, 0, none⟩)]))]) (bx' := []) (by simp only [hl41]) rfl ?_
 refine oe (JE_fall (vs := []) (by kernel_rfl) (fun γ w hs => ?_))
 rw [← sI h40]
 exact hs.turned (is := [0]) rfl
end Go.Pen
