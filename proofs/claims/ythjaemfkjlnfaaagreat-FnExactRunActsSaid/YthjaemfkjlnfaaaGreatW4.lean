/-
  Each Go function does what its plain function says: written by a program of ours.
-/
import Derived.Test.YthjaemfkjlnfaaaGreatW3
import Derived.Test.YthjaemfkjlnfaaaGreatProg
import Derived.Test.YthjaemfkjlnfaaaGreatPenK
import Derived.Test.YthjaemfkjlnfaaaGreatPenQ
import Derived.Test.YthjaemfkjlnfaaaGreatPenU
namespace Go.Pen
open Go.Proofs Go.RowKit
set_option linter.unusedVariables false
set_option linter.unusedSimpArgs false
set_option maxRecDepth 100000
set_option maxHeartbeats 4000000
theorem c_impl_VarsFor {W : World} {x0 : Case} {b0 : AC × AC × AC × AC × AC} {x1 : Int} {x2 : Int} {r : (List Frac) × Bool} (h : impl_VarsFor x0 x1 x2 = some r) (hv0_0 : SlView W x0.Book.Rules b0.1.1 b0.1.2) (hv0_1 : SlView W x0.Store.Facts b0.2.1.1 b0.2.1.2) (hv0_2 : SlView W x0.Series.Points b0.2.2.1.1 b0.2.2.1.2) (hv0_3 : SlView W x0.Member.Spells b0.2.2.2.1.1 b0.2.2.2.1.2) (hv0_4 : SlView W x0.Member.Events b0.2.2.2.2.1 b0.2.2.2.2.2) :
  Gives Tryz.prog 146 #[vCase x0 b0,.int .i64 x1,.int .i64 x2] W (fun y : AC=>.tuple #[.slice y.1 r.1.length y.2,.bool r.2]) (fun y=>[SlRes 216 r.1 y.1 y.2]):=by
 unfold impl_VarsFor at h
 refine en Tryz.func146 Tryz.ntmps146 ?_
 refine qs (qr (oB 3 [(3,.p 0 0)] [1,2] [(54,(eCase x0 b0))] ?_))
 refine oe (nt (qs (qr (oB 4 [(8,.p 1 0)] [3,1,2] [(54,(eCase x0 b0)),(52,(eMember x0.Member b0.2.2.2))] ?_))))
 refine oe (nt (qs (qs ?_)))
 obtain ⟨ai,aj,ak⟩:=bS h
 refine JC_cut (τ:=Unit) (fun _=>[(1,vi x1),(2,vi x2),(3,.p 0 0),(8,.p 1 0),(37,vb ai)]) (fun _=>[(54,(eCase x0 b0)),(52,(eMember x0.Member b0.2.2.2))]) (fun _=>[]) ?_ (fun _=>?_)
 ·refine qr (oN 1 [(19,.v (vCase x0 b0))] [8,3,1,2] ?_)
  obtain ⟨al,am,an⟩:=bS aj
  refine k0 (fun γ w hs=>c_impl_CaseOk (b0:=b0) am (hv0_0.k hs) (hv0_1.k hs) (hv0_2.k hs) (hv0_3.k hs) (hv0_4.k hs)) ?_
  refine oN 2 [(22,vb (!al))] [8,3,1,2] ?_
  refine oS 22 an (fun ao=>?_) (fun ap=>?_)
  ·refine oN 15 [(37,vb true)] [8,3,1,2] ?_
   refine oe ?_
   obtain rfl:=sI ao
   exact mt () [1,2,3,8,37] [] 2
  refine oN 1 [(23,vi x1)] [22,8,3,1,2] ?_
  obtain ⟨aq,ar,au⟩:=bS ap
  refine k0 (fun γ w hs=>c_impl_MonthOk ar) ?_
  refine oN 3 [(27,vb (!aq))] [8,3,1,2] ?_
  refine oS 27 au (fun av=>?_) (fun aw=>?_)
  ·refine oN 10 [(37,vb true)] [8,3,1,2] ?_
   refine oe ?_
   obtain rfl:=sI av
   exact mt () [1,2,3,8,37] [] 2
  refine oN 1 [(28,vi x2)] [27,8,3,1,2] ?_
  obtain ⟨ax,ay,az⟩:=bS aw
  refine k0 (fun γ w hs=>c_impl_MonthOk ay) ?_
  refine oN 3 [(32,vb (!ax))] [8,3,1,2] ?_
  refine oS 32 az (fun b4=>?_) (fun b5=>?_)
  ·refine oN 5 [(37,vb true)] [8,3,1,2] ?_
   refine oe ?_
   obtain rfl:=sI b4
   exact mt () [1,2,3,8,37] [] 2
  refine oN 5 [(37,vb (decide (x1 < x0.Member.Joined)))] [8,3,1,2] ?_
  refine oe ?_
  obtain rfl:=sI b5
  exact mt () [1,2,3,8,37] [] 2
 refine nt (cC ak (fun b6=>?_) (fun b7=>?_))
 ·refine qs (qr (oN 2 [(7,vb false),(6,.v (.slice none 0 0))] [] ?_))
  refine oe (nt (qe (nr (JE_addnil 216 (List.nil (α:=Frac)) rfl ?_))))
  refine rt [.slice none 0 0,.bool false] (fun γ w hs=>?_)
  rw [← sI b6]
  exact ⟨(none,0),rfl,hs.kept.toBelow,(hs.takeR (is:=[0]) rfl).fresh⟩
 refine qk (nt (qs (qr (oN 4 [(42,vi x2),(41,vi x1),(40,.v (vStore x0.Store b0.2.1))] [1,2,3,8] ?_))))
 obtain ⟨ae,b8,b9⟩:=bS b7
 refine k0 (fun γ w hs=>c_impl_FinalPay b8 (hv0_1.k hs)) ?_
 refine oN 5 [(9,vi ae.1)] [1,2,3,8] ?_
 refine oe (nt (qs (qr (oN 6 [(52,vi x2),(51,vi x1),(50,vi x0.Member.Joined),(48,.v (vSeries x0.Series b0.2.2.1))] [9,1,8] ?_))))
 obtain ⟨af,ba,bb⟩:=bS b9
 refine k0 (fun γ w hs=>c_impl_IndexRatio ba (hv0_2.k hs)) ?_
 refine oB 6 [(12,vb af.2),(11,.p 2 0)] [9,1,8] [(54,(eCase x0 b0)),(52,(eMember x0.Member b0.2.2.2)),(216,(eFrac af.1))] ?_
 refine oe (nt (qs (qs (qr (oN 2 [(57,vb (!af.2))] [11,9,1,8] ?_)))))
 refine oe (nt ?_)
 obtain ⟨bc,bd,be⟩:=jS bb
 refine JC_cutP (τ:=(Int × Int) × (Unit)) (fun y=>bc y.1 = some r) (fun a3=>[(11,.p 2 0),(9,vi ae.1),(1,vi x1),(8,.p 1 0)]) (fun a3=>[(54,(eCase x0 b0)),(52,(eMember x0.Member b0.2.2.2)),(216,(eFrac (Frac.mk a3.1.1 a3.1.2)))]) (fun a3=>[]) ?_ (fun a3 bf=>?_)
 ·refine cC be (fun bg=>?_) (fun bi=>?_)
  ·refine qr (oB 2 [] [11,9,1,8] [(54,(eCase x0 b0)),(52,(eMember x0.Member b0.2.2.2)),(216,(eFrac (Frac.mk 1 1)))] ?_)
   exact oe (mp ((1,1),()) bg [11,9,1,8] [] 3)
  exact qk (mp ((af.1.Num,af.1.Den),()) bi [11,9,1,8] [] 3)
 have bj:=(congrFun bd _).symm.trans bf
 refine nt (qs (qr (oN 2 [(60,sv b0.2.2.2.2 x0.Member.Events)] [11,9,1,8] ?_)))
 obtain ⟨ag,bk,bl⟩:=bS bj
 refine k0 (fun γ w hs=>c_impl_MonthOfKind bk (hv0_4.k hs)) ?_
 refine oN 1 [(13,vi ag)] [11,9,1,8] ?_
 refine oe (nt (qs (qs ?_)))
 obtain ⟨bm,bo,bp⟩:=bS bl
 refine JC_cut (τ:=Unit) (fun _=>[(1,vi x1),(8,.p 1 0),(9,vi ae.1),(11,.p 2 0),(13,vi ag),(68,vb bm)]) (fun _=>[(54,(eCase x0 b0)),(52,(eMember x0.Member b0.2.2.2)),(216,(eFrac (Frac.mk a3.1.1 a3.1.2)))]) (fun _=>[]) ?_ (fun _=>?_)
 ·refine qr (oN 3 [(64,vb (decide (ag < 0)))] [13,11,9,1,8] ?_)
  refine oS 64 bo (fun bq=>?_) (fun bs=>?_)
  ·refine oN 4 [(68,vb true)] [13,11,9,1,8] ?_
   refine oe ?_
   obtain rfl:=sI bq
   exact mt () [1,8,9,11,13,68] [] 3
  refine oN 4 [(68,vb (decide (ag > x1)))] [13,11,9,1,8] ?_
  refine oe ?_
  obtain rfl:=sI bs
  exact mt () [1,8,9,11,13,68] [] 3
 refine nt ?_
 obtain ⟨bu,bv,bw⟩:=jS bp
 refine JC_cutP (τ:=(Int) × (Unit)) (fun y=>bu y.1 = some r) (fun ac=>[(1,vi x1),(8,.p 1 0),(9,vi ae.1),(11,.p 2 0),(13,vi ac.1)]) (fun ac=>[(54,(eCase x0 b0)),(52,(eMember x0.Member b0.2.2.2)),(216,(eFrac (Frac.mk a3.1.1 a3.1.2)))]) (fun ac=>[]) ?_ (fun ac bz=>?_)
 ·refine cC bw (fun c3=>?_) (fun c4=>?_)
  ·refine qr (oN 2 [(13,vi x1)] [1,8,9,11] ?_)
   exact oe (mp (x1,()) c3 [1,8,9,11,13] [] 3)
  exact qk (mp (ag,()) c4 [1,8,9,11,13] [] 3)
 have c5:=(congrFun bv _).symm.trans bz
 refine nt (qs (qr (oN 3 [(73,vi x1),(72,sv b0.2.2.2.1 x0.Member.Spells)] [1,8,9,11,13] ?_)))
 obtain ⟨d0,c6,c7⟩:=bS c5
 refine k0 (fun γ w hs=>c_impl_ServiceIn c6 (hv0_3.k hs)) ?_
 obtain ⟨a4,c8,c9⟩:=bS c7
 refine k0 (fun γ w hs=>c_impl_reduced c8) ?_
 refine oB 6 [(15,vb a4.2),(14,.p 3 0)] [1,8,9,11,13] [(54,(eCase x0 b0)),(52,(eMember x0.Member b0.2.2.2)),(216,(eFrac (Frac.mk a3.1.1 a3.1.2))),(216,(eFrac a4.1))] ?_
 refine oe (nt (qs ?_))
 obtain ⟨a6,ca,cb⟩:=bS c9
 obtain ⟨d1,cc,cd⟩:=bS cb
 obtain ⟨a7,ce,cf⟩:=bS cd
 obtain ⟨a8,cg,ch⟩:=bS cf
 obtain ⟨a9,ci,cj⟩:=bS ch
 obtain ⟨aa,ck,cl⟩:=bS cj
 obtain ⟨ab,cm,cn⟩:=bS cl
 refine JC_cut (τ:=AC) (fun a5=>[(16,sv a5 ([a4.1,a6,a7,Frac.mk a3.1.1 a3.1.2,a8,a9,aa,ab] : List Frac)),(15,vb a4.2)]) (fun a5=>[(54,(eCase x0 b0)),(52,(eMember x0.Member b0.2.2.2)),(216,(eFrac (Frac.mk a3.1.1 a3.1.2))),(216,(eFrac a4.1))]) (fun a5=>[SlRes 216 ([a4.1,a6,a7,Frac.mk a3.1.1 a3.1.2,a8,a9,aa,ab] : List Frac) a5.1 a5.2]) ?_ (fun a5=>?_)
 ·refine jw [15,14,1,8,9,11,13] [] ?_
  refine JC_heldN (ks:=[0,1,2,3]) (Rk:=[]) 19 (by kernel_rfl) (by kernel_rfl) ?_
  refine htq 0 (.v (vFrac a4.1)) [] ?_
  refine hk [78,15,1,8,9,11,13] ?_
  refine htq 1 (vi ae.1) [] ?_
  refine hk [79,78,15,1,8,11,13] ?_
  refine htq 3 (.p 1 0) [] ?_
  refine hk [81,79,78,15,1,11,13] ?_
  refine htq 4 (vi x0.Member.Birth) [] ?_
  refine hk [82,79,78,15,1,11,13] ?_
  refine htq 5 (vi x1) [] ?_
  refine htq 8 (.v (vFrac (Frac.mk a3.1.1 a3.1.2))) [] ?_
  refine hk [86,83,82,79,78,15,1,13] ?_
  refine htq 9 (vi x1) [] ?_
  refine htq 10 (vi ac.1) [] ?_
  refine hk [88,87,86,83,82,79,78,15,1] ?_
  refine htq 11 (vi (w64 (x1 - ac.1))) [] ?_
  refine hk [89,86,83,82,79,78,15,1] ?_
  refine htq 13 (vi x1) [] ?_
  refine hk [91,89,86,83,82,79,78,15] ?_
  refine ha1 2 ?_
  refine hi (fun γ0 δ hm=>?_)
  refine g0 (fun w hs=>c_impl_whole ca) ?_
  refine gn hm [80,91,89,86,83,82,78,15] [] ?_
  refine ha1 6 ?_
  refine hi (fun γ0 δ hm=>?_)
  refine g0 (fun w hs=>c_impl_AgeAt cc) ?_
  refine gn hm [84,80,91,89,86,78,15] [] ?_
  refine ha1 7 ?_
  refine hi (fun γ0 δ hm=>?_)
  refine g0 (fun w hs=>c_impl_whole ce) ?_
  refine gn hm [85,80,91,89,86,78,15] [] ?_
  refine ha1 12 ?_
  refine hi (fun γ0 δ hm=>?_)
  refine g0 (fun w hs=>c_impl_whole cg) ?_
  refine gn hm [90,85,80,91,86,78,15] [] ?_
  refine ha1 14 ?_
  refine hi (fun γ0 δ hm=>?_)
  refine g0 (fun w hs=>c_impl_whole ci) ?_
  refine gn hm [92,90,85,80,86,78,15] [] ?_
  refine ha1 15 ?_
  refine hi (fun γ0 δ hm=>?_)
  refine g0 (fun w hs=>c_impl_whole ck) ?_
  refine gn hm [93,92,90,85,80,86,78,15] [] ?_
  refine ha1 16 ?_
  refine hi (fun γ0 δ hm=>?_)
  refine g0 (fun w hs=>c_impl_whole cm) ?_
  refine gn hm [94,93,92,90,85,80,86,78,15] [] ?_
  refine ha1 17 ?_
  refine hi (fun γ0 δ hm=>?_)
  refine gb [] [] 216 8 [.int .i64 a4.1.Num,.int .i64 a4.1.Den,.int .i64 a6.Num,.int .i64 a6.Den,.int .i64 a7.Num,.int .i64 a7.Den,.int .i64 a3.1.1,.int .i64 a3.1.2,.int .i64 a8.Num,.int .i64 a8.Den,.int .i64 a9.Num,.int .i64 a9.Den,.int .i64 aa.Num,.int .i64 aa.Den,.int .i64 ab.Num,.int .i64 ab.Den] ([a4.1,a6,a7,Frac.mk a3.1.1 a3.1.2,a8,a9,aa,ab] : List Frac) (own_flat (by kernel_rfl)) (fun ah=>?_)
  refine gn hm [95,15] [] ?_
  refine htq 18 (sv ah ([a4.1,a6,a7,Frac.mk a3.1.1 a3.1.2,a8,a9,aa,ab] : List Frac)) [] ?_
  refine hk [16,15] ?_
  exact hd ah [16,15] [0] 4
 refine nt (qs (qs ?_))
 obtain ⟨co,cp,cq⟩:=bS cn
 refine JC_cut (τ:=Unit) (fun _=>[(16,sv a5 ([a4.1,a6,a7,Frac.mk a3.1.1 a3.1.2,a8,a9,aa,ab] : List Frac)),(101,vb co)]) (fun _=>[(54,(eCase x0 b0)),(52,(eMember x0.Member b0.2.2.2)),(216,(eFrac (Frac.mk a3.1.1 a3.1.2))),(216,(eFrac a4.1))]) (fun _=>[SlRes 216 ([a4.1,a6,a7,Frac.mk a3.1.1 a3.1.2,a8,a9,aa,ab] : List Frac) a5.1 a5.2]) ?_ (fun _=>?_)
 ·refine qr (oN 3 [(98,vb (!a4.2))] [16] ?_)
  refine oS 98 cp (fun cr=>?_) (fun cu=>?_)
  ·refine oN 3 [(101,vb true)] [16] ?_
   refine oe ?_
   obtain rfl:=sI cr
   exact mt () [16,101] [0] 4
  refine oN 1 [(99,sv a5 ([a4.1,a6,a7,Frac.mk a3.1.1 a3.1.2,a8,a9,aa,ab] : List Frac))] [98,16] ?_
  obtain ⟨cv,cw,cx⟩:=bS cu
  refine k0 (fun γ w hs=>c_slices_ContainsFunc_Frac__impl_VarsFor_1 cw (hs.view 0 rfl)) ?_
  refine oN 1 [(101,vb cv)] [16] ?_
  refine oe ?_
  obtain rfl:=sI cx
  exact mt () [16,101] [0] 4
 refine nt (cC cq (fun cy=>?_) (fun cz=>?_))
 ·refine qs (qr (oN 2 [(7,vb false),(6,.v (.slice none 0 0))] [] ?_))
  refine oe (nt (qe (nr (JE_addnil 216 (List.nil (α:=Frac)) rfl ?_))))
  refine rt [.slice none 0 0,.bool false] (fun γ w hs=>?_)
  rw [← sI cy]
  exact ⟨(none,0),rfl,hs.kept.toBelow,(hs.takeR (is:=[0]) rfl).fresh⟩
 refine qk (nt (qs (qr (oN 3 [(7,vb true),(6,sv a5 ([a4.1,a6,a7,Frac.mk a3.1.1 a3.1.2,a8,a9,aa,ab] : List Frac))] [] ?_))))
 refine oe (nt (qe (rt [.slice a5.1 ([a4.1,a6,a7,Frac.mk a3.1.1 a3.1.2,a8,a9,aa,ab] : List Frac).length a5.2,.bool true] (fun γ w hs=>?_))))
 rw [← sI cz]
 exact ⟨a5,rfl,hs.kept.toBelow,(hs.takeR (is:=[0]) rfl).fresh⟩
theorem c_impl_RuleFor {W : World} {x0 : Book} {a0_0 : Option Addr} {c0_0 : Nat} {x1 : Int} {x2 : Int} {x3 : Int} {r : Int} (h : impl_RuleFor x0 x1 x2 x3 = some r) (hv0_0 : SlView W x0.Rules a0_0 c0_0) :
  Gives0 Tryz.prog 190 #[vBook x0 (a0_0,c0_0),.int .i64 x1,.int .i64 x2,.int .i64 x3] W (.int .i64 r):=by
 unfold impl_RuleFor at h
 refine en Tryz.func190 Tryz.ntmps190 ?_
 refine qs (qr (oB 2 [(4,.p 0 0)] [1,2,3] [(42,(eBook x0 (a0_0,c0_0)))] ?_))
 refine oe (nt (qs (qr (oN 1 [(9,vi (-1))] [4,1,2,3] ?_))))
 refine oe (nt (qs (qs (qr (oN 4 [(15,vi 0),(14,vi (x0.Rules.length : Int)),(13,vs a0_0 x0.Rules c0_0)] [9,4,1,2,3] ?_)))))
 refine oe (nt ?_)
 obtain ⟨bs,af,a9⟩:=bS h
 obtain ⟨ag,ah,a9⟩:=brkS a9
 refine JC_cutP (τ:=(Int) × (Unit)) (fun y=>ag y.1 = some r) (fun a5=>[(9,vi a5.1),(4,.p 0 0)]) (fun a5=>[(42,(eBook x0 (a0_0,c0_0)))]) (fun a5=>[]) ?_ (fun a5 ai=>?_)
 ·refine qb (lp Unit af (fun a3 aa=>[(15,vi a3.1),(14,vi (x0.Rules.length : Int)),(13,vs a0_0 x0.Rules c0_0),(9,vi a3.2),(4,.p 0 0),(1,vi x1),(2,vi x2),(3,vi x3)]) (fun a3 aa=>[(42,(eBook x0 (a0_0,c0_0)))]) (fun a3 aa=>[]) () [15,14,13,9,4,1,2,3] [] 1 (fun a3 aa aj ak al=>?_))
  refine qs (qr (oN 1 [(16,vb (decide (a3.1 < (x0.Rules.length : Int))))] [15,14,13,9,4,1,2,3] ?_))
  refine oe (nt (qs (cC ak (fun am=>?_) (fun an=>?_))))
  ·refine qk (nt (qs (qb (qs (qr (oN 1 [(17,vi a3.1)] [15,14,13,9,4,1,2,3] ?_))))))
   obtain ⟨a4,ab,ao⟩:=bS am
   refine oi 7 (fun _ w hs=>(hv0_0.k hs)) ab ?_
   obtain ⟨_,⟨a6,a7,rfl,bu⟩,ap⟩:=SlView.at hv0_0 (idx_some ab).2.2
   refine ol 188 0 (vRule a4 (a6,a7)) (fun _ w hs=>⟨(hv0_0.k hs).ne (idx_some ab).2.2,ap.kept hs.kept⟩) ?_
   refine oB 3 [(10,vi a3.1),(11,.p 1 0)] [15,14,13,9,4,1,2,3] [(42,(eBook x0 (a0_0,c0_0))),(188,(eRule a4 (a6,a7)))] ?_
   refine oe (nt (qs ?_))
   obtain ⟨aq,ar,au⟩:=bS ao
   refine JC_cut (τ:=Unit) (fun _=>[(1,vi x1),(2,vi x2),(3,vi x3),(4,.p 0 0),(9,vi a3.2),(10,vi a3.1),(13,vs a0_0 x0.Rules c0_0),(14,vi (x0.Rules.length : Int)),(15,vi a3.1),(56,vb aq)]) (fun _=>[(42,(eBook x0 (a0_0,c0_0))),(188,(eRule a4 (a6,a7)))]) (fun _=>[]) ?_ (fun _=>?_)
   ·refine JC_quiet (by kernel_rfl) (by kernel_rfl) ?_
    refine qN 5 [(24,vb (a4.Name == x1))] [10,11,15,14,13,9,4,1,2,3] ?_
    refine qS 24 ar (fun av=>?_) (fun aw=>?_)
    ·refine qN 6 [(30,vb (decide (a4.From ≤ x2)))] [10,11,15,14,13,9,4,1,2,3] ?_
     refine qS 30 av (fun ax=>?_) (fun ay=>?_)
     ·refine qN 6 [(36,vb (decide (x2 < a4.To)))] [10,11,15,14,13,9,4,1,2,3] ?_
      refine qS 36 ax (fun az=>?_) (fun b4=>?_)
      ·refine qN 6 [(42,vb (decide (a4.Joined > x3)))] [10,11,15,14,13,9,4,1,2,3] ?_
       refine qS 42 az (fun b5=>?_) (fun b6=>?_)
       ·refine qN 3 [(45,vb (decide (a3.2 < 0)))] [42,10,11,15,14,13,9,4,1,2,3] ?_
        refine qS 45 b5 (fun b7=>?_) (fun b8=>?_)
        ·refine qN 11 [(56,vb true)] [10,15,14,13,9,4,1,2,3] ?_
         refine qz ?_
         obtain rfl:=sI b7
         exact mt () [1,2,3,4,9,10,13,14,15,56] [] 2
        refine qN 5 [(50,vi a3.2),(49,vs a0_0 x0.Rules c0_0),(47,vi a4.Rank)] [45,42,10,15,14,13,9,4,1,2,3] ?_
        obtain ⟨ae,ac,b9⟩:=bS b8
        refine qi 7 (fun _ w hs=>(hv0_0.k hs)) ac ?_
        refine qN 1 [(52,.q a0_0 (Int.toNat a3.2 * 7 + 4))] [47,45,42,10,15,14,13,9,4,1,2,3] ?_
        obtain ⟨_,⟨bv,bw,rfl,bz⟩,ba⟩:=SlView.at hv0_0 (idx_some ac).2.2
        refine ql 3 4 (.int .i64 ae.Rank) (fun _ w hs=>⟨(hv0_0.k hs).ne (idx_some ac).2.2,ba.kept hs.kept⟩) ?_
        refine qN 3 [(56,vb (decide (a4.Rank > ae.Rank)))] [10,15,14,13,9,4,1,2,3] ?_
        refine qz ?_
        obtain rfl:=sI b9
        exact mt () [1,2,3,4,9,10,13,14,15,56] [] 2
       refine qN 14 [(56,vb false)] [10,15,14,13,9,4,1,2,3] ?_
       refine qz ?_
       obtain rfl:=sI b6
       exact mt () [1,2,3,4,9,10,13,14,15,56] [] 2
      refine qN 20 [(56,vb false)] [10,15,14,13,9,4,1,2,3] ?_
      refine qz ?_
      obtain rfl:=sI b4
      exact mt () [1,2,3,4,9,10,13,14,15,56] [] 2
     refine qN 26 [(56,vb false)] [10,15,14,13,9,4,1,2,3] ?_
     refine qz ?_
     obtain rfl:=sI ay
     exact mt () [1,2,3,4,9,10,13,14,15,56] [] 2
    refine qN 32 [(56,vb false)] [10,15,14,13,9,4,1,2,3] ?_
    refine qz ?_
    obtain rfl:=sI aw
    exact mt () [1,2,3,4,9,10,13,14,15,56] [] 2
   refine nt ?_
   obtain ⟨bb,bc,bd⟩:=jS au
   refine JC_cutP (τ:=(Int) × (Unit)) (fun y=>bb y.1 = some aj) (fun a8=>[(1,vi x1),(2,vi x2),(3,vi x3),(4,.p 0 0),(9,vi a8.1),(13,vs a0_0 x0.Rules c0_0),(14,vi (x0.Rules.length : Int)),(15,vi a3.1)]) (fun a8=>[(42,(eBook x0 (a0_0,c0_0))),(188,(eRule a4 (a6,a7)))]) (fun a8=>[]) ?_ (fun a8 be=>?_)
   ·refine cC bd (fun bf=>?_) (fun bg=>?_)
    ·refine qr (oN 2 [(9,vi a3.1)] [1,2,3,4,13,14,15] ?_)
     exact oe (mp (a3.1,()) bf [1,2,3,4,9,13,14,15] [] 2)
    exact qk (mp (a3.2,()) bg [1,2,3,4,9,13,14,15] [] 2)
   have bi:=(congrFun bc _).symm.trans be
   refine bn (nt (qr (oN 2 [(15,vi (w64 (a3.1 + 1)))] [1,2,3,4,9,13,14] ?_)))
   exact oe (ct bi () [15,14,13,9,4,1,2,3] [] 1)
  refine qx (nx (nx (bh ?_)))
  have bj:=leafB al an a9
  exact mp (a3.2,()) bj [9,4] [] 1
 have bk:=(congrFun ah _).symm.trans ai
 refine nt (qs (qs (qr (oN 1 [(59,.v (vBook x0 (a0_0,c0_0)))] [9] ?_))))
 obtain ⟨bl,bm,bo⟩:=bS bk
 refine k0 (fun _ w hs=>c_impl_BookOk bm (hv0_0.k hs)) ?_
 refine oN 1 [(61,vb (!bl))] [9] ?_
 refine oe (nt (cC bo (fun bp=>?_) (fun bq=>?_)))
 ·refine qs (qr (oN 1 [(8,vi (-1))] [] ?_))
  refine oe (nt (qe (nr ?_)))
  obtain rfl:=sI bp
  exact re [.int .i64 (-1)]
 refine qk (nt (qs (qr (oN 2 [(8,vi a5.1)] [] ?_))))
 refine oe (nt (qe ?_))
 obtain rfl:=sI bq
 exact re [.int .i64 a5.1]
theorem c_impl_EvalAll_1 {W : World} {x0 : Frac} {r : Bool} (h : impl_EvalAll_1 x0 = some r)  :
  Gives0 Tryz.prog 238 #[vFrac x0] W (.bool r):=by
 unfold impl_EvalAll_1 at h
 refine en Tryz.func238 Tryz.ntmps238 ?_
 refine qs (qr (oB 2 [(1,.p 0 0)] [] [(216,(eFrac x0))] ?_))
 refine oe (nt (qs (qr (oN 1 [(3,.v (vFrac x0))] [] ?_))))
 obtain ⟨a3,a4,a5⟩:=bS h
 refine k0 (fun _ w hs=>c_impl_FracOk a4) ?_
 refine oN 2 [(2,vb (!a3))] [] ?_
 refine oe (nt (qe ?_))
 obtain rfl:=sI a5
 exact re [.bool (!a3)]
theorem c_slices_IndexFunc_Frac__impl_EvalAll_1 {W : World} {x0 : List Frac} {a0_0 : Option Addr} {c0_0 : Nat} {r : Int} (h : slices_IndexFunc_Frac__impl_EvalAll_1 x0 = some r) (hv0_0 : SlView W x0 a0_0 c0_0) :
  Gives0 Tryz.prog 222 #[.slice a0_0 x0.length c0_0,.func (.func 238) #[] #[]] W (.int .i64 r):=by
 unfold slices_IndexFunc_Frac__impl_EvalAll_1 at h
 refine en Tryz.func222 Tryz.ntmps222 ?_
 refine qs (qr (oN 1 [] [0,1] ?_))
 refine oe (nt (qs (qs (qr (oN 3 [(8,vi 0),(7,vi (x0.length : Int))] [0,1] ?_)))))
 refine oe (nt ?_)
 obtain ⟨aq,a9,a4⟩:=bS h
 obtain ⟨aa,ab,a4⟩:=brkS a4
 refine JC_cutP (τ:=(Unit) × (Unit)) (fun y=>aa y.1 = some r) (fun a5=>[]) (fun a5=>[]) (fun a5=>[]) ?_ (fun a5 ac=>?_)
 ·refine qb (lp Unit a9 (fun a3 a6=>[(8,vi a3),(7,vi (x0.length : Int)),(0,vs a0_0 x0 c0_0),(1,.v (.func (.func 238) #[] #[]))]) (fun a3 a6=>[]) (fun a3 a6=>[]) () [8,7,0,1] [] 0 (fun a3 a6 ar ae a7=>?_))
  refine qs (qr (oN 1 [(9,vb (decide (a3 < (x0.length : Int))))] [8,7,0,1] ?_))
  refine oe (nt (qs (cC ae (fun af=>?_) (fun ag=>?_))))
  ·refine qk (nt (qs (qb (qs (qr (oN 2 [(5,vi a3)] [8,7,0,1] ?_))))))
   refine oe (nt (qs (qr (oN 3 [(13,vi a3),(12,vs a0_0 x0 c0_0),(11,.v (.func (.func 238) #[] #[]))] [5,8,7,0,1] ?_))))
   obtain ⟨ah,a8,ai⟩:=bS af
   refine oi 2 (fun _ w hs=>(hv0_0.k hs)) a8 ?_
   refine ol 216 0 (vFrac ah) (fun _ w hs=>(hv0_0.k hs).flatq a8) ?_
   obtain ⟨au,aj,ak⟩:=bS ai
   refine k0 (fun _ w hs=>c_impl_EvalAll_1 aj) ?_
   refine oe (nt (cC ak (fun al=>?_) (fun am=>?_)))
   ·refine qs (qr (oN 2 [(4,vi a3)] [] ?_))
    refine oe (nt (qe (br (nr (nr ?_)))))
    have an:=leafR a7 al a4
    refine br (nr (nr ?_))
    obtain rfl:=sI an
    exact re [.int .i64 a3]
   refine qk (bn (nt (qr (oN 2 [(8,vi (w64 (a3 + 1)))] [7,0,1] ?_))))
   exact oe (ct am () [8,7,0,1] [] 0)
  refine qx (nx (nx (bh ?_)))
  have ao:=leafB a7 ag a4
  exact mp ((),()) ao [] [] 0
 have ap:=(congrFun ab _).symm.trans ac
 refine nt (qs (qr (oN 1 [(4,vi (-1))] [] ?_)))
 refine oe (nt (qe ?_))
 obtain rfl:=sI ap
 exact re [.int .i64 (-1)]
theorem c_slices_ContainsFunc_Frac__impl_EvalAll_1 {W : World} {x0 : List Frac} {a0_0 : Option Addr} {c0_0 : Nat} {r : Bool} (h : slices_ContainsFunc_Frac__impl_EvalAll_1 x0 = some r) (hv0_0 : SlView W x0 a0_0 c0_0) :
  Gives0 Tryz.prog 187 #[.slice a0_0 x0.length c0_0,.func (.func 238) #[] #[]] W (.bool r):=by
 unfold slices_ContainsFunc_Frac__impl_EvalAll_1 at h
 refine en Tryz.func187 Tryz.ntmps187 ?_
 refine qs (qr (oN 1 [] [0,1] ?_))
 refine oe (nt (qs (qr (oN 2 [(6,.v (.func (.func 238) #[] #[])),(5,vs a0_0 x0 c0_0)] [] ?_))))
 obtain ⟨a3,a4,a5⟩:=bS h
 refine k0 (fun _ w hs=>c_slices_IndexFunc_Frac__impl_EvalAll_1 a4 (hv0_0.k hs)) ?_
 refine oN 2 [(4,vb (decide (a3 ≥ 0)))] [] ?_
 refine oe (nt (qe ?_))
 obtain rfl:=sI a5
 exact re [.bool (decide (a3 ≥ 0))]
theorem c_cmp_isNaN_int {W : World} {x0 : Int} {r : Bool} (h : cmp_isNaN_int x0 = some r)  :
  Gives0 Tryz.prog 263 #[.int .i64 x0] W (.bool r):=by
 unfold cmp_isNaN_int at h
 refine en Tryz.func263 Tryz.ntmps263 ?_
 refine qs (qr (oN 1 [] [0] ?_))
 refine oe (nt (qs (qr (oN 4 [(2,vb (x0 != x0))] [] ?_))))
 refine oe (nt (qe ?_))
 obtain rfl:=sI h
 exact re [.bool (x0 != x0)]
theorem c_cmp_Compare_int {W : World} {x0 : Int} {x1 : Int} {r : Int} (h : cmp_Compare_int x0 x1 = some r)  :
  Gives0 Tryz.prog 259 #[.int .i64 x0,.int .i64 x1] W (.int .i64 r):=by
 unfold cmp_Compare_int at h
 refine en Tryz.func259 Tryz.ntmps259 ?_
 refine qs (qr (oN 1 [] [0,1] ?_))
 refine oe (nt (qs (qr (oN 1 [(7,vi x0)] [0,1] ?_))))
 obtain ⟨a4,a5,a6⟩:=bS h
 refine k0 (fun _ w hs=>c_cmp_isNaN_int a5) ?_
 refine oN 1 [(5,vb a4)] [0,1] ?_
 refine oe (nt (qs (qr (oN 1 [(9,vi x1)] [5,0,1] ?_))))
 obtain ⟨a3,a7,a8⟩:=bS a6
 refine k0 (fun _ w hs=>c_cmp_isNaN_int a7) ?_
 refine oN 1 [(6,vb a3)] [5,0,1] ?_
 refine oe (nt (qs (qs (qr (oN 1 [(11,vb a4)] [6,0,1] ?_)))))
 refine oe (nt (cC a8 (fun a9=>?_) (fun aa=>?_)))
 ·refine qs (qs (qr (oN 1 [(12,vb a3)] [] ?_)))
  refine oe (nt (cC a9 (fun ab=>?_) (fun ac=>?_)))
  ·refine qs (qr (oN 1 [(4,vi 0)] [] ?_))
   refine oe (nt (qe (nr (nr ?_))))
   obtain rfl:=sI ab
   exact re [.int .i64 0]
  refine qk (nt (qs (qr (oN 1 [(4,vi (-1))] [] ?_))))
  refine oe (nt (qe (nr ?_)))
  obtain rfl:=sI ac
  exact re [.int .i64 (-1)]
 refine qk (nt (qs (qs (qr (oN 1 [(13,vb a3)] [0,1] ?_)))))
 refine oe (nt (cC aa (fun ae=>?_) (fun af=>?_)))
 ·refine qs (qr (oN 1 [(4,vi 1)] [] ?_))
  refine oe (nt (qe (nr ?_)))
  obtain rfl:=sI ae
  exact re [.int .i64 1]
 refine qk (nt (qs (qs (qr (oN 3 [(16,vb (decide (x0 < x1)))] [0,1] ?_)))))
 refine oe (nt (cC af (fun ag=>?_) (fun ah=>?_)))
 ·refine qs (qr (oN 1 [(4,vi (-1))] [] ?_))
  refine oe (nt (qe (nr ?_)))
  obtain rfl:=sI ag
  exact re [.int .i64 (-1)]
 refine qk (nt (qs (qs (qr (oN 3 [(19,vb (decide (x0 > x1)))] [] ?_)))))
 refine oe (nt (cC ah (fun ai=>?_) (fun aj=>?_)))
 ·refine qs (qr (oN 1 [(4,vi 1)] [] ?_))
  refine oe (nt (qe (nr ?_)))
  obtain rfl:=sI ai
  exact re [.int .i64 1]
 refine qk (nt (qs (qr (oN 1 [(4,vi 0)] [] ?_))))
 refine oe (nt (qe ?_))
 obtain rfl:=sI aj
 exact re [.int .i64 0]
theorem c_impl_FracCmp {W : World} {x0 : Frac} {x1 : Frac} {r : Int} (h : impl_FracCmp x0 x1 = some r)  :
  Gives0 Tryz.prog 249 #[vFrac x0,vFrac x1] W (.int .i64 r):=by
 unfold impl_FracCmp at h
 refine en Tryz.func249 Tryz.ntmps249 ?_
 refine qs (qr (oB 3 [(3,.p 1 0),(2,.p 0 0)] [] [(216,(eFrac x0)),(216,(eFrac x1))] ?_))
 refine oe (nt (qs (qs ?_)))
 obtain ⟨a4,a5,a6⟩:=bS h
 refine JC_cut (τ:=Unit) (fun _=>[(2,.p 0 0),(3,.p 1 0),(12,vb a4)]) (fun _=>[(216,(eFrac x0)),(216,(eFrac x1))]) (fun _=>[]) ?_ (fun _=>?_)
 ·refine qr (oN 1 [(5,.v (vFrac x0))] [3,2] ?_)
  obtain ⟨a7,a8,a9⟩:=bS a5
  refine k0 (fun _ w hs=>c_impl_FracOk a8) ?_
  refine oN 2 [(8,vb (!a7))] [3,2] ?_
  refine oS 8 a9 (fun aa=>?_) (fun ab=>?_)
  ·refine oN 4 [(12,vb true)] [3,2] ?_
   refine oe ?_
   obtain rfl:=sI aa
   exact mt () [2,3,12] [] 2
  refine oN 1 [(9,.v (vFrac x1))] [8,3,2] ?_
  obtain ⟨ac,ae,af⟩:=bS ab
  refine k0 (fun _ w hs=>c_impl_FracOk ae) ?_
  refine oN 2 [(12,vb (!ac))] [3,2] ?_
  refine oe ?_
  obtain rfl:=sI af
  exact mt () [2,3,12] [] 2
 refine nt (cC a6 (fun ag=>?_) (fun ah=>?_))
 ·refine qs (qr (oN 1 [(4,vi 2)] [] ?_))
  refine oe (nt (qe (nr ?_)))
  obtain rfl:=sI ag
  exact re [.int .i64 2]
 refine qk (nt (qs (qr (oN 10 [(22,vi (w64 (x1.Num * x0.Den))),(17,vi (w64 (x0.Num * x1.Den)))] [] ?_))))
 obtain ⟨a3,ai,aj⟩:=bS ah
 refine k0 (fun _ w hs=>c_cmp_Compare_int ai) ?_
 refine oN 1 [(4,vi a3)] [] ?_
 refine oe (nt (qe ?_))
 obtain rfl:=sI aj
 exact re [.int .i64 a3]
theorem c_impl_FracAdd {W : World} {x0 : Frac} {x1 : Frac} {r : Frac × Bool} (h : impl_FracAdd x0 x1 = some r)  :
  Gives0 Tryz.prog 250 #[vFrac x0,vFrac x1] W (.tuple #[vFrac r.1,.bool r.2]):=by
 unfold impl_FracAdd at h
 refine en Tryz.func250 Tryz.ntmps250 ?_
 refine qs (qr (oB 4 [(4,.p 2 0),(3,.p 1 0),(2,.p 0 0)] [] [(216,(eFrac x0)),(216,(eFrac x1)),(216,(eFrac (Frac.mk 0 0)))] ?_))
 refine oe (nt (qs (qs ?_)))
 obtain ⟨a4,a5,a6⟩:=bS h
 refine JC_cut (τ:=Unit) (fun _=>[(2,.p 0 0),(3,.p 1 0),(4,.p 2 0),(13,vb a4)]) (fun _=>[(216,(eFrac x0)),(216,(eFrac x1)),(216,(eFrac (Frac.mk 0 0)))]) (fun _=>[]) ?_ (fun _=>?_)
 ·refine qr (oN 1 [(6,.v (vFrac x0))] [4,3,2] ?_)
  obtain ⟨a7,a8,a9⟩:=bS a5
  refine k0 (fun _ w hs=>c_impl_FracOk a8) ?_
  refine oN 2 [(9,vb (!a7))] [4,3,2] ?_
  refine oS 9 a9 (fun aa=>?_) (fun ab=>?_)
  ·refine oN 4 [(13,vb true)] [4,3,2] ?_
   refine oe ?_
   obtain rfl:=sI aa
   exact mt () [2,3,4,13] [] 3
  refine oN 1 [(10,.v (vFrac x1))] [9,4,3,2] ?_
  obtain ⟨ac,ae,af⟩:=bS ab
  refine k0 (fun _ w hs=>c_impl_FracOk ae) ?_
  refine oN 2 [(13,vb (!ac))] [4,3,2] ?_
  refine oe ?_
  obtain rfl:=sI af
  exact mt () [2,3,4,13] [] 3
 refine nt (cC a6 (fun ag=>?_) (fun ah=>?_))
 ·refine qs (qr (oN 3 [(5,vb false)] [4] ?_))
  refine oe (nt (qe (nr ?_)))
  obtain rfl:=sI ag
  exact re [vFrac (Frac.mk 0 0),.bool false]
 refine qk (nt (qs (qr (oN 16 [(30,vi (w64 (x0.Den * x1.Den))),(25,vi (w64 ((w64 (x0.Num * x1.Den)) + (w64 (x1.Num * x0.Den)))))] [4] ?_))))
 obtain ⟨a3,ai,aj⟩:=bS ah
 refine k0 (fun _ w hs=>c_impl_reduced ai) ?_
 refine oB 4 [(5,vb a3.2)] [4] [(216,(eFrac x0)),(216,(eFrac x1)),(216,(eFrac a3.1))] ?_
 refine oe (nt (qe ?_))
 obtain rfl:=sI aj
 exact re [vFrac a3.1,.bool a3.2]
theorem c_impl_FracSub {W : World} {x0 : Frac} {x1 : Frac} {r : Frac × Bool} (h : impl_FracSub x0 x1 = some r)  :
  Gives0 Tryz.prog 251 #[vFrac x0,vFrac x1] W (.tuple #[vFrac r.1,.bool r.2]):=by
 unfold impl_FracSub at h
 refine en Tryz.func251 Tryz.ntmps251 ?_
 refine qs (qr (oB 4 [(4,.p 2 0),(3,.p 1 0),(2,.p 0 0)] [] [(216,(eFrac x0)),(216,(eFrac x1)),(216,(eFrac (Frac.mk 0 0)))] ?_))
 refine oe (nt (qs (qs ?_)))
 obtain ⟨a4,a5,a6⟩:=bS h
 refine JC_cut (τ:=Unit) (fun _=>[(2,.p 0 0),(3,.p 1 0),(4,.p 2 0),(13,vb a4)]) (fun _=>[(216,(eFrac x0)),(216,(eFrac x1)),(216,(eFrac (Frac.mk 0 0)))]) (fun _=>[]) ?_ (fun _=>?_)
 ·refine qr (oN 1 [(6,.v (vFrac x0))] [4,3,2] ?_)
  obtain ⟨a7,a8,a9⟩:=bS a5
  refine k0 (fun _ w hs=>c_impl_FracOk a8) ?_
  refine oN 2 [(9,vb (!a7))] [4,3,2] ?_
  refine oS 9 a9 (fun aa=>?_) (fun ab=>?_)
  ·refine oN 4 [(13,vb true)] [4,3,2] ?_
   refine oe ?_
   obtain rfl:=sI aa
   exact mt () [2,3,4,13] [] 3
  refine oN 1 [(10,.v (vFrac x1))] [9,4,3,2] ?_
  obtain ⟨ac,ae,af⟩:=bS ab
  refine k0 (fun _ w hs=>c_impl_FracOk ae) ?_
  refine oN 2 [(13,vb (!ac))] [4,3,2] ?_
  refine oe ?_
  obtain rfl:=sI af
  exact mt () [2,3,4,13] [] 3
 refine nt (cC a6 (fun ag=>?_) (fun ah=>?_))
 ·refine qs (qr (oN 3 [(5,vb false)] [4] ?_))
  refine oe (nt (qe (nr ?_)))
  obtain rfl:=sI ag
  exact re [vFrac (Frac.mk 0 0),.bool false]
 refine qk (nt (qs (qr (oN 16 [(30,vi (w64 (x0.Den * x1.Den))),(25,vi (w64 ((w64 (x0.Num * x1.Den)) - (w64 (x1.Num * x0.Den)))))] [4] ?_))))
 obtain ⟨a3,ai,aj⟩:=bS ah
 refine k0 (fun _ w hs=>c_impl_reduced ai) ?_
 refine oB 4 [(5,vb a3.2)] [4] [(216,(eFrac x0)),(216,(eFrac x1)),(216,(eFrac a3.1))] ?_
 refine oe (nt (qe ?_))
 obtain rfl:=sI aj
 exact re [vFrac a3.1,.bool a3.2]
theorem c_impl_areFactors {W : World} {x0 : Frac} {x1 : Frac} {r : Bool} (h : impl_areFactors x0 x1 = some r)  :
  Gives0 Tryz.prog 260 #[vFrac x0,vFrac x1] W (.bool r):=by
 unfold impl_areFactors at h
 refine en Tryz.func260 Tryz.ntmps260 ?_
 refine qs (qr (oB 3 [(3,.p 1 0),(2,.p 0 0)] [] [(216,(eFrac x0)),(216,(eFrac x1))] ?_))
 refine oe (nt (qs ?_))
 obtain ⟨a3,a4,a5⟩:=bS h
 refine JC_cut (τ:=Unit) (fun _=>[(4,vb a3)]) (fun _=>[(216,(eFrac x0)),(216,(eFrac x1))]) (fun _=>[]) ?_ (fun _=>?_)
 ·refine qr (oN 1 [(5,.v (vFrac x0))] [3,2] ?_)
  obtain ⟨a6,a7,a8⟩:=bS a4
  refine k0 (fun _ w hs=>c_impl_FracOk a7) ?_
  refine oN 1 [(7,vb a6)] [3,2] ?_
  refine oS 7 a8 (fun a9=>?_) (fun aa=>?_)
  ·refine oN 1 [(8,.v (vFrac x1))] [7,3,2] ?_
   obtain ⟨ab,ac,ae⟩:=bS a9
   refine k0 (fun _ w hs=>c_impl_FracOk ac) ?_
   refine oN 2 [(11,vb ab)] [3,2] ?_
   refine oS 11 ae (fun af=>?_) (fun ag=>?_)
   ·refine oN 2 [(13,vi x0.Num)] [11,3] ?_
    obtain ⟨ah,ai,aj⟩:=bS af
    refine k0 (fun _ w hs=>c_impl_within ai) ?_
    refine oN 2 [(16,vb ah)] [3] ?_
    refine oS 16 aj (fun ak=>?_) (fun al=>?_)
    ·refine oN 2 [(18,vi x1.Num)] [16] ?_
     obtain ⟨am,an,ao⟩:=bS ak
     refine k0 (fun _ w hs=>c_impl_within an) ?_
     refine oN 2 [(4,vb am)] [] ?_
     refine oe ?_
     obtain rfl:=sI ao
     exact mt () [4] [] 2
    refine oN 5 [(4,vb false)] [] ?_
    refine oe ?_
    obtain rfl:=sI al
    exact mt () [4] [] 2
   refine oN 10 [(4,vb false)] [] ?_
   refine oe ?_
   obtain rfl:=sI ag
   exact mt () [4] [] 2
  refine oN 14 [(4,vb false)] [] ?_
  refine oe ?_
  obtain rfl:=sI aa
  exact mt () [4] [] 2
 refine nt (qe ?_)
 obtain rfl:=sI a5
 exact re [.bool a3]
theorem c_impl_FracMul {W : World} {x0 : Frac} {x1 : Frac} {r : Frac × Bool} (h : impl_FracMul x0 x1 = some r)  :
  Gives0 Tryz.prog 252 #[vFrac x0,vFrac x1] W (.tuple #[vFrac r.1,.bool r.2]):=by
 unfold impl_FracMul at h
 refine en Tryz.func252 Tryz.ntmps252 ?_
 refine qs (qr (oB 4 [(4,.p 2 0),(3,.p 1 0),(2,.p 0 0)] [] [(216,(eFrac x0)),(216,(eFrac x1)),(216,(eFrac (Frac.mk 0 0)))] ?_))
 refine oe (nt (qs (qs (qr (oN 2 [(7,.v (vFrac x1)),(6,.v (vFrac x0))] [4,3,2] ?_)))))
 obtain ⟨a4,a5,a6⟩:=bS h
 refine k0 (fun _ w hs=>c_impl_areFactors a5) ?_
 refine oN 1 [(9,vb (!a4))] [4,3,2] ?_
 refine oe (nt (cC a6 (fun a7=>?_) (fun a8=>?_)))
 ·refine qs (qr (oN 3 [(5,vb false)] [4] ?_))
  refine oe (nt (qe (nr ?_)))
  obtain rfl:=sI a7
  exact re [vFrac (Frac.mk 0 0),.bool false]
 refine qk (nt (qs (qr (oN 10 [(20,vi (w64 (x0.Den * x1.Den))),(15,vi (w64 (x0.Num * x1.Num)))] [4] ?_))))
 obtain ⟨a3,a9,aa⟩:=bS a8
 refine k0 (fun _ w hs=>c_impl_reduced a9) ?_
 refine oB 4 [(5,vb a3.2)] [4] [(216,(eFrac x0)),(216,(eFrac x1)),(216,(eFrac a3.1))] ?_
 refine oe (nt (qe ?_))
 obtain rfl:=sI aa
 exact re [vFrac a3.1,.bool a3.2]
theorem c_impl_FracDiv {W : World} {x0 : Frac} {x1 : Frac} {r : Frac × Bool} (h : impl_FracDiv x0 x1 = some r)  :
  Gives0 Tryz.prog 253 #[vFrac x0,vFrac x1] W (.tuple #[vFrac r.1,.bool r.2]):=by
 unfold impl_FracDiv at h
 refine en Tryz.func253 Tryz.ntmps253 ?_
 refine qs (qr (oB 4 [(4,.p 2 0),(3,.p 1 0),(2,.p 0 0)] [] [(216,(eFrac x0)),(216,(eFrac x1)),(216,(eFrac (Frac.mk 0 0)))] ?_))
 refine oe (nt (qs (qs ?_)))
 obtain ⟨a4,a5,a6⟩:=bS h
 refine JC_cut (τ:=Unit) (fun _=>[(2,.p 0 0),(3,.p 1 0),(4,.p 2 0),(14,vb a4)]) (fun _=>[(216,(eFrac x0)),(216,(eFrac x1)),(216,(eFrac (Frac.mk 0 0)))]) (fun _=>[]) ?_ (fun _=>?_)
 ·refine qr (oN 2 [(7,.v (vFrac x1)),(6,.v (vFrac x0))] [4,3,2] ?_)
  obtain ⟨a7,a8,a9⟩:=bS a5
  refine k0 (fun _ w hs=>c_impl_areFactors a8) ?_
  refine oN 2 [(10,vb (!a7))] [4,3,2] ?_
  refine oS 10 a9 (fun aa=>?_) (fun ab=>?_)
  ·refine oN 4 [(14,vb true)] [4,3,2] ?_
   refine oe ?_
   obtain rfl:=sI aa
   exact mt () [2,3,4,14] [] 3
  refine oN 4 [(14,vb (x1.Num == 0))] [4,3,2] ?_
  refine oe ?_
  obtain rfl:=sI ab
  exact mt () [2,3,4,14] [] 3
 refine nt (cC a6 (fun ac=>?_) (fun ae=>?_))
 ·refine qs (qr (oN 3 [(5,vb false)] [4] ?_))
  refine oe (nt (qe (nr ?_)))
  obtain rfl:=sI ac
  exact re [vFrac (Frac.mk 0 0),.bool false]
 refine qk (nt (qs (qr (oN 10 [(25,vi (w64 (x0.Den * x1.Num))),(20,vi (w64 (x0.Num * x1.Den)))] [4] ?_))))
 obtain ⟨a3,af,ag⟩:=bS ae
 refine k0 (fun _ w hs=>c_impl_reduced af) ?_
 refine oB 4 [(5,vb a3.2)] [4] [(216,(eFrac x0)),(216,(eFrac x1)),(216,(eFrac a3.1))] ?_
 refine oe (nt (qe ?_))
 obtain rfl:=sI ag
 exact re [vFrac a3.1,.bool a3.2]
theorem c_impl_evalNode {W : World} {x0 : Node} {x1 : List Frac} {a1_0 : Option Addr} {c1_0 : Nat} {x2 : List Frac} {a2_0 : Option Addr} {c2_0 : Nat} {r : Frac × Bool} (h : impl_evalNode x0 x1 x2 = some r) (hv1_0 : SlView W x1 a1_0 c1_0) (hv2_0 : SlView W x2 a2_0 c2_0) :
  Gives0 Tryz.prog 239 #[vNode x0,.slice a1_0 x1.length c1_0,.slice a2_0 x2.length c2_0] W (.tuple #[vFrac r.1,.bool r.2]):=by
 unfold impl_evalNode at h
 refine en Tryz.func239 Tryz.ntmps239 ?_
 refine qs (qr (oB 3 [(6,.p 1 0),(3,.p 0 0)] [1,2] [(233,(eNode x0)),(216,(eFrac (Frac.mk 0 0)))] ?_))
 refine oe (nt (qs (qs (qr (oN 2 [(12,vi x0.Kind)] [6,3,1,2] ?_)))))
 refine oe (nt (qb (qs (qr (oN 2 [(13,vb (x0.Kind == 1))] [12,6,3,1,2] ?_)))))
 refine oe (nt (cC h (fun aj=>?_) (fun ak=>?_)))
 ·refine qs (qr (oB 4 [(7,vb true)] [6] [(233,(eNode x0)),(216,(eFrac x0.Value))] ?_))
  refine oe (nt (qe (br (nr ?_))))
  obtain rfl:=sI aj
  exact re [vFrac x0.Value,.bool true]
 refine qs (qr (oN 2 [(17,vb (x0.Kind == 2))] [6,3,1,2] ?_))
 refine oe (nt (cC ak (fun al=>?_) (fun am=>?_)))
 ·refine qs (qr (oN 3 [(21,vi x0.A),(19,vs a2_0 x2 c2_0)] [6] ?_))
  obtain ⟨aa,af,an⟩:=bS al
  refine oi 2 (fun γ w hs=>(hv2_0.k hs)) af ?_
  refine ol 216 0 (vFrac aa) (fun γ w hs=>(hv2_0.k hs).flatq af) ?_
  refine oB 2 [(7,vb true)] [6] [(233,(eNode x0)),(216,(eFrac aa))] ?_
  refine oe (nt (qe (br (nr ?_))))
  obtain rfl:=sI an
  exact re [vFrac aa,.bool true]
 refine qk (bn (nt (qs ?_)))
 obtain ⟨a4,ag,ao⟩:=bS am
 obtain ⟨a3,ah,ap⟩:=bS ao
 refine JC_cut (τ:=Unit) (fun _=>[(9,.p 3 0),(8,.p 2 0),(6,.p 1 0),(3,.p 0 0),(1,vs a1_0 x1 c1_0)]) (fun _=>[(233,(eNode x0)),(216,(eFrac (Frac.mk 0 0))),(216,(eFrac a4)),(216,(eFrac a3))]) (fun _=>[]) ?_ (fun _=>?_)
 ·refine jw [6,3,1] [] ?_
  refine JC_heldN (ks:=[0,1]) (Rk:=[]) 14 (by kernel_rfl) (by kernel_rfl) ?_
  refine htq 0 (vs a1_0 x1 c1_0) [] ?_
  refine htq 1 (.p 0 1) [] ?_
  refine htq 2 (vi x0.A) [] ?_
  refine hk [26,24,6,3,1] ?_
  refine ht 3 (.q a1_0 (Int.toNat x0.A * 2)) [] (index_held (d:=a1_0) (m:=x1.length) (j:=x0.A) (s:=2) (by kernel_rfl) (fun γ0 w hs=>(hv1_0.k hs)) rfl ag) ?_
  refine hk [27,6,3,1] ?_
  refine ht 4 (.v (vFrac a4)) [] (loadq_held (t:=216) (d:=a1_0) (Int.toNat x0.A * 2) 0 (by kernel_rfl) (cs:=(eFrac a4)) (v:=vFrac a4) (fun γ0 w hs=>(hv1_0.k hs).flatq ag) (by kernel_rfl)) ?_
  refine hk [28,6,3,1] ?_
  refine htq 5 (vs a1_0 x1 c1_0) [] ?_
  refine htq 6 (.p 0 2) [] ?_
  refine htq 7 (vi x0.B) [] ?_
  refine hk [31,29,28,6,3,1] ?_
  refine ht 8 (.q a1_0 (Int.toNat x0.B * 2)) [] (index_held (d:=a1_0) (m:=x1.length) (j:=x0.B) (s:=2) (by kernel_rfl) (fun γ0 w hs=>(hv1_0.k hs)) rfl ah) ?_
  refine hk [32,28,6,3,1] ?_
  refine ht 9 (.v (vFrac a3)) [] (loadq_held (t:=216) (d:=a1_0) (Int.toNat x0.B * 2) 0 (by kernel_rfl) (cs:=(eFrac a3)) (v:=vFrac a3) (fun γ0 w hs=>(hv1_0.k hs).flatq ah) (by kernel_rfl)) ?_
  refine hk [33,28,6,3,1] ?_
  refine ha2 10 11 ?_ ?_
  ·refine hi (fun γ0 δ hm=>?_)
   refine gs [(8,.p 2 0),(33,.v (vFrac a3)),(28,.v (vFrac a4)),(6,.p 1 0),(3,.p 0 0),(1,vs a1_0 x1 c1_0)] [(233,(eNode x0)),(216,(eFrac (Frac.mk 0 0))),(216,(eFrac (Frac.mk 0 0)))] (fun δ2=>?_)
   refine gd hm [8,33,28,6,3,1] [] ?_
   refine ha1 11 ?_
   refine hi (fun γ0 δ hm=>?_)
   refine gs [(9,.p 3 0),(8,.p 2 0),(33,.v (vFrac a3)),(28,.v (vFrac a4)),(6,.p 1 0),(3,.p 0 0),(1,vs a1_0 x1 c1_0)] [(233,(eNode x0)),(216,(eFrac (Frac.mk 0 0))),(216,(eFrac (Frac.mk 0 0))),(216,(eFrac (Frac.mk 0 0)))] (fun δ2=>?_)
   refine gd hm [9,8,33,28,6,3,1] [] ?_
   refine ha1 12 ?_
   refine hi (fun γ0 δ hm=>?_)
   refine gs [(9,.p 3 0),(8,.p 2 0),(33,.v (vFrac a3)),(28,.v (vFrac a4)),(6,.p 1 0),(3,.p 0 0),(1,vs a1_0 x1 c1_0)] [(233,(eNode x0)),(216,(eFrac (Frac.mk 0 0))),(216,(eFrac a4)),(216,(eFrac (Frac.mk 0 0)))] (fun δ2=>?_)
   refine gd hm [9,8,33,6,3,1] [] ?_
   refine ha1 13 ?_
   refine hi (fun γ0 δ hm=>?_)
   refine gs [(9,.p 3 0),(8,.p 2 0),(33,.v (vFrac a3)),(6,.p 1 0),(3,.p 0 0),(1,vs a1_0 x1 c1_0)] [(233,(eNode x0)),(216,(eFrac (Frac.mk 0 0))),(216,(eFrac a4)),(216,(eFrac a3))] (fun δ2=>?_)
   refine gd hm [9,8,6,3,1] [] ?_
   exact hd () [9,8,6,3,1] [] 4
  ·refine hi (fun γ0 δ hm=>?_)
   refine gs [(9,.p 2 0),(33,.v (vFrac a3)),(28,.v (vFrac a4)),(6,.p 1 0),(3,.p 0 0),(1,vs a1_0 x1 c1_0)] [(233,(eNode x0)),(216,(eFrac (Frac.mk 0 0))),(216,(eFrac (Frac.mk 0 0)))] (fun δ2=>?_)
   refine gd hm [9,33,28,6,3,1] [] ?_
   refine ha1 10 ?_
   refine hi (fun γ0 δ hm=>?_)
   refine gs [(8,.p 3 0),(9,.p 2 0),(33,.v (vFrac a3)),(28,.v (vFrac a4)),(6,.p 1 0),(3,.p 0 0),(1,vs a1_0 x1 c1_0)] [(233,(eNode x0)),(216,(eFrac (Frac.mk 0 0))),(216,(eFrac (Frac.mk 0 0))),(216,(eFrac (Frac.mk 0 0)))] (fun δ2=>?_)
   refine gd hm [8,9,33,28,6,3,1] [] ?_
   refine ha1 12 ?_
   refine hi (fun γ0 δ hm=>?_)
   refine gs [(8,.p 3 0),(9,.p 2 0),(33,.v (vFrac a3)),(28,.v (vFrac a4)),(6,.p 1 0),(3,.p 0 0),(1,vs a1_0 x1 c1_0)] [(233,(eNode x0)),(216,(eFrac (Frac.mk 0 0))),(216,(eFrac (Frac.mk 0 0))),(216,(eFrac a4))] (fun δ2=>?_)
   refine gd hm [8,9,33,6,3,1] [] ?_
   refine ha1 13 ?_
   refine hi (fun γ0 δ hm=>?_)
   refine gs [(8,.p 3 0),(9,.p 2 0),(33,.v (vFrac a3)),(6,.p 1 0),(3,.p 0 0),(1,vs a1_0 x1 c1_0)] [(233,(eNode x0)),(216,(eFrac (Frac.mk 0 0))),(216,(eFrac a3)),(216,(eFrac a4))] (fun δ2=>?_)
   refine gd hm [8,9,6,3,1] [] ?_
   exact JH_doneP (by kernel_rfl) () [9,8,6,3,1] [] 4 [0,1,3,2] [0,1,3,2] (by kernel_rfl) (by kernel_rfl) (by kernel_rfl) (by kernel_rfl) (by kernel_rfl)
 refine nt (qs (qr (oN 2 [(35,.v (vFrac a3)),(34,.v (vFrac a4))] [9,8,6,3,1] ?_)))
 obtain ⟨ab,aq,ar⟩:=bS ap
 refine k0 (fun γ w hs=>c_impl_FracCmp aq) ?_
 refine oN 2 [(10,vb (decide (ab ≤ 0)))] [9,8,6,3,1] ?_
 refine oe (nt (qs (qs (qr (oN 2 [(39,vi x0.Kind)] [10,9,8,6,3,1] ?_)))))
 refine oe (nt (qb (qs (qr (oN 2 [(40,vb (x0.Kind == 3))] [39,10,9,8,6,3,1] ?_)))))
 refine oe (nt ?_)
 obtain ⟨au,av,aw⟩:=jS ar
 refine JC_cutP (τ:=(Unit) × (Unit)) (fun y=>au y.1 = some r) (fun ac=>[(9,.p 3 0),(8,.p 2 0),(6,.p 1 0),(3,.p 0 0),(1,vs a1_0 x1 c1_0)]) (fun ac=>[(233,(eNode x0)),(216,(eFrac (Frac.mk 0 0))),(216,(eFrac a4)),(216,(eFrac a3))]) (fun ac=>[]) ?_ (fun ac ax=>?_)
 ·refine cC aw (fun ay=>?_) (fun az=>?_)
  ·refine qs (qr (oN 2 [(43,.v (vFrac a3)),(42,.v (vFrac a4))] [6] ?_))
   obtain ⟨a5,b4,b5⟩:=bS ay
   refine k0 (fun γ w hs=>c_impl_FracAdd b4) ?_
   refine oB 4 [(7,vb a5.2)] [6] [(233,(eNode x0)),(216,(eFrac a5.1)),(216,(eFrac a4)),(216,(eFrac a3))] ?_
   refine oe (nt (qe (nr (br (nr ?_)))))
   obtain rfl:=sI b5
   exact re [vFrac a5.1,.bool a5.2]
  refine qs (qr (oN 2 [(47,vb (x0.Kind == 4))] [39,10,9,8,6,3,1] ?_))
  refine oe (nt (cC az (fun b6=>?_) (fun b7=>?_)))
  ·refine qs (qr (oN 2 [(50,.v (vFrac a3)),(49,.v (vFrac a4))] [6] ?_))
   obtain ⟨a6,b8,b9⟩:=bS b6
   refine k0 (fun γ w hs=>c_impl_FracSub b8) ?_
   refine oB 4 [(7,vb a6.2)] [6] [(233,(eNode x0)),(216,(eFrac a6.1)),(216,(eFrac a4)),(216,(eFrac a3))] ?_
   refine oe (nt (qe (nr (br (nr ?_)))))
   obtain rfl:=sI b9
   exact re [vFrac a6.1,.bool a6.2]
  refine qs (qr (oN 2 [(54,vb (x0.Kind == 5))] [39,10,9,8,6,3,1] ?_))
  refine oe (nt (cC b7 (fun ba=>?_) (fun bb=>?_)))
  ·refine qs (qr (oN 2 [(57,.v (vFrac a3)),(56,.v (vFrac a4))] [6] ?_))
   obtain ⟨a7,bc,bd⟩:=bS ba
   refine k0 (fun γ w hs=>c_impl_FracMul bc) ?_
   refine oB 4 [(7,vb a7.2)] [6] [(233,(eNode x0)),(216,(eFrac a7.1)),(216,(eFrac a4)),(216,(eFrac a3))] ?_
   refine oe (nt (qe (nr (br (nr ?_)))))
   obtain rfl:=sI bd
   exact re [vFrac a7.1,.bool a7.2]
  refine qs (qr (oN 2 [(61,vb (x0.Kind == 6))] [39,10,9,8,6,3,1] ?_))
  refine oe (nt (cC bb (fun be=>?_) (fun bf=>?_)))
  ·refine qs (qr (oN 2 [(64,.v (vFrac a3)),(63,.v (vFrac a4))] [6] ?_))
   obtain ⟨a8,bg,bi⟩:=bS be
   refine k0 (fun γ w hs=>c_impl_FracDiv bg) ?_
   refine oB 4 [(7,vb a8.2)] [6] [(233,(eNode x0)),(216,(eFrac a8.1)),(216,(eFrac a4)),(216,(eFrac a3))] ?_
   refine oe (nt (qe (nr (br (nr ?_)))))
   obtain rfl:=sI bi
   exact re [vFrac a8.1,.bool a8.2]
  refine qs (qs (qr (oN 2 [(68,vb (x0.Kind == 7))] [39,10,9,8,6,3,1] ?_)))
  refine oe (nt ?_)
  obtain ⟨bj,bk,bl⟩:=jS bf
  refine JC_cutP (τ:=(Bool) × (Unit)) (fun y=>bj y.1 = some r) (fun a9=>[(68,vb a9.1),(10,vb (decide (ab ≤ 0))),(9,.p 3 0),(8,.p 2 0),(6,.p 1 0),(3,.p 0 0),(1,vs a1_0 x1 c1_0)]) (fun a9=>[(233,(eNode x0)),(216,(eFrac (Frac.mk 0 0))),(216,(eFrac a4)),(216,(eFrac a3))]) (fun a9=>[]) ?_ (fun a9 bm=>?_)
  ·refine cC bl (fun bo=>?_) (fun bp=>?_)
   ·exact qk (mp (x0.Kind == 7,()) bo [68,10,9,8,6,3,1] [] 4)
   refine qr (oN 2 [(68,vb (x0.Kind == 8))] [10,9,8,6,3,1] ?_)
   exact oe (mp (x0.Kind == 8,()) bp [68,10,9,8,6,3,1] [] 4)
  have bq:=(congrFun bk _).symm.trans bm
  refine nt (cC bq (fun bs=>?_) (fun bu=>?_))
  ·refine qs (qs (qr (oN 5 [(75,vb ((decide (ab ≤ 0)) == (x0.Kind == 7)))] [9,8,6] ?_)))
   refine oe (nt (cC bs (fun bv=>?_) (fun bw=>?_)))
   ·refine qs (qr (oB 3 [(7,vb true)] [6] [(233,(eNode x0)),(216,(eFrac a4)),(216,(eFrac a4)),(216,(eFrac a3))] ?_))
    refine oe (nt (qe (nr (nr (br (nr ?_))))))
    obtain rfl:=sI bv
    exact re [vFrac a4,.bool true]
   refine qk (nt (qs (qr (oB 3 [(7,vb true)] [6] [(233,(eNode x0)),(216,(eFrac a3)),(216,(eFrac a4)),(216,(eFrac a3))] ?_))))
   refine oe (nt (qe (nr (br (nr ?_)))))
   obtain rfl:=sI bw
   exact re [vFrac a3,.bool true]
  exact qk (mp ((),()) bu [9,8,6,3,1] [] 4)
 have bz:=(congrFun av _).symm.trans ax
 refine bn (nt (qs (qs (qr (oN 3 [(80,vb (decide (a4.Num > 0)))] [9,6,3,1] ?_)))))
 refine oe (nt (cC bz (fun c3=>?_) (fun c4=>?_)))
 ·refine qs (qr (oB 3 [(7,vb true)] [6] [(233,(eNode x0)),(216,(eFrac a3)),(216,(eFrac a4)),(216,(eFrac a3))] ?_))
  refine oe (nt (qe (nr ?_)))
  obtain rfl:=sI c3
  exact re [vFrac a3,.bool true]
 refine qk (nt (qs (qr (oN 3 [(84,vi x0.C),(82,vs a1_0 x1 c1_0)] [6] ?_))))
 obtain ⟨ae,ai,c5⟩:=bS c4
 refine oi 2 (fun γ w hs=>(hv1_0.k hs)) ai ?_
 refine ol 216 0 (vFrac ae) (fun γ w hs=>(hv1_0.k hs).flatq ai) ?_
 refine oB 2 [(7,vb true)] [6] [(233,(eNode x0)),(216,(eFrac ae)),(216,(eFrac a4)),(216,(eFrac a3))] ?_
 refine oe (nt (qe ?_))
 obtain rfl:=sI c5
 exact re [vFrac ae,.bool true]
theorem c_impl_EvalAll {W : World} {x0 : List Node} {a0_0 : Option Addr} {c0_0 : Nat} {x1 : List Frac} {a1_0 : Option Addr} {c1_0 : Nat} {r : (List Frac) × Bool} (h : impl_EvalAll x0 x1 = some r) (hv0_0 : SlView W x0 a0_0 c0_0) (hv1_0 : SlView W x1 a1_0 c1_0) :
  Gives Tryz.prog 223 #[.slice a0_0 x0.length c0_0,.slice a1_0 x1.length c1_0] W (fun y : AC=>.tuple #[.slice y.1 r.1.length y.2,.bool r.2]) (fun y=>[SlRes 216 r.1 y.1 y.2]):=by
 unfold impl_EvalAll at h
 refine en Tryz.func223 Tryz.ntmps223 ?_
 refine qs (qr (oN 2 [] [0,1] ?_))
 refine oe (nt (qs (qs ?_)))
 obtain ⟨af,ag,ah⟩:=bS h
 refine JC_cut (τ:=Unit) (fun _=>[(0,vs a0_0 x0 c0_0),(1,vs a1_0 x1 c1_0),(22,vb af)]) (fun _=>[]) (fun _=>[]) ?_ (fun _=>?_)
 ·refine qr (oN 1 [(11,vs a0_0 x0 c0_0)] [0,1] ?_)
  obtain ⟨ai,aj,ak⟩:=bS ag
  refine k0 (fun _ w hs=>c_impl_FormulaOk aj (hv0_0.k hs)) ?_
  refine oN 2 [(14,vb (!ai))] [0,1] ?_
  refine oS 14 ak (fun al=>?_) (fun am=>?_)
  ·refine oN 8 [(22,vb true)] [0,1] ?_
   refine oe ?_
   obtain rfl:=sI al
   exact mt () [0,1,22] [] 0
  refine oN 5 [(19,vb ((x1.length : Int) != 8))] [0,1] ?_
  refine oS 19 am (fun an=>?_) (fun ao=>?_)
  ·refine oN 3 [(22,vb true)] [0,1] ?_
   refine oe ?_
   obtain rfl:=sI an
   exact mt () [0,1,22] [] 0
  refine oN 1 [(20,vs a1_0 x1 c1_0)] [19,0,1] ?_
  obtain ⟨ap,aq,ar⟩:=bS ao
  refine k0 (fun _ w hs=>c_slices_ContainsFunc_Frac__impl_EvalAll_1 aq (hv1_0.k hs)) ?_
  refine oN 1 [(22,vb ap)] [0,1] ?_
  refine oe ?_
  obtain rfl:=sI ar
  exact mt () [0,1,22] [] 0
 refine nt (cC ah (fun au=>?_) (fun av=>?_))
 ·refine qs (qr (oN 2 [(5,vb false),(4,.v (.slice none 0 0))] [] ?_))
  refine oe (nt (qe (nr (JE_addnil 216 (List.nil (α:=Frac)) rfl ?_))))
  refine rt [.slice none 0 0,.bool false] (fun _ w hs=>?_)
  rw [← sI au]
  exact ⟨(none,0),rfl,hs.kept.toBelow,(hs.takeR (is:=[0]) rfl).fresh⟩
 refine qk (nt (qs (qr (ob [] [] 216 0 [] ([] : List Frac) (own_flat (by kernel_rfl)) (fun a9=>?_)))))
 refine oN 1 [(6,sv a9 ([] : List Frac))] [0,1] ?_
 refine oe (nt (qs (qs (qr (oN 3 [(26,vi 0),(25,vi (x0.length : Int)),(24,vs a0_0 x0 c0_0)] [6,1] ?_)))))
 refine oe (nt ?_)
 obtain ⟨bj,aw,a7⟩:=bS av
 obtain ⟨ax,ay,a7⟩:=brkS a7
 refine JC_cutP (τ:=((List Frac)) × (AC)) (fun y=>ax y.1 = some r) (fun a3=>[(6,sv a3.2 a3.1)]) (fun a3=>[]) (fun a3=>[SlRes 216 a3.1 a3.2.1 a3.2.2]) ?_ (fun a3 az=>?_)
 ·refine qb (lp AC aw (fun a4 a5=>[(26,vi a4.1),(25,vi (x0.length : Int)),(24,vs a0_0 x0 c0_0),(6,sv a5 a4.2),(1,vs a1_0 x1 c1_0)]) (fun a4 a5=>[]) (fun a4 a5=>[SlRes 216 a4.2 a5.1 a5.2]) (a9.1,a9.2) [26,25,24,6,1] [0] 0 (fun a4 a5 bk b4 ab=>?_))
  refine qs (qr (oN 1 [(27,vb (decide (a4.1 < (x0.length : Int))))] [26,25,24,6,1] ?_))
  refine oe (nt (qs (cC b4 (fun b5=>?_) (fun b6=>?_))))
  ·refine qk (nt (qs (qb (qs (qr ?_)))))
   obtain ⟨a8,ac,b7⟩:=bS b5
   refine oi 6 (fun _ w hs=>(hv0_0.k hs)) ac ?_
   refine ol 233 0 (vNode a8) (fun _ w hs=>(hv0_0.k hs).flatq ac) ?_
   refine oB 2 [(8,.p 0 0)] [26,25,24,6,1] [(233,(eNode a8))] ?_
   refine oe (nt (qs (qr (oN 3 [(33,vs a1_0 x1 c1_0),(32,sv a5 a4.2),(31,.v (vNode a8))] [26,25,24,6,1] ?_))))
   obtain ⟨a6,b8,b9⟩:=bS b7
   refine k0 (fun _ w hs=>c_impl_evalNode b8 (hs.view 0 rfl) (hv1_0.k hs)) ?_
   refine oB 6 [(10,vb a6.2),(9,.p 1 0)] [26,25,24,6,1] [(233,(eNode a8)),(216,(eFrac a6.1))] ?_
   refine oe (nt (qs (qs (qr (oN 2 [(38,vb (!a6.2))] [9,26,25,24,6,1] ?_)))))
   refine oe (nt (cC b9 (fun ba=>?_) (fun bb=>?_)))
   ·refine qs (qr (oN 2 [(5,vb false),(4,.v (.slice none 0 0))] [] ?_))
    refine oe (nt (qe (nr (br (nr (nr ?_))))))
    have bc:=leafR ab ba a7
    refine br (nr (nr (JE_addnil 216 (List.nil (α:=Frac)) rfl ?_)))
    refine rt [.slice none 0 0,.bool false] (fun _ w hs=>?_)
    rw [← sI bc]
    exact ⟨(none,0),rfl,hs.kept.toBelow,(hs.takeR (is:=[0]) rfl).fresh⟩
   refine qk (nt (qr (oN 2 [(40,.v (vFrac a6.1)),(39,sv a5 a4.2)] [26,25,24,1] ?_)))
   refine ob [] [SlRes 216 a4.2 a5.1 a5.2] 216 1 [.int .i64 a6.1.Num,.int .i64 a6.1.Den] ([a6.1] : List Frac) (own_flat (by kernel_rfl)) (fun ae=>?_)
   refine or_ [1,0] ?_
   obtain ⟨bd,be,bf⟩:=bS bb
   refine oa 177 ae.2 Tryz.t216 (vFrac (Frac.mk 0 0)) (fun _ w hs=>⟨ae.2,(hs.view 1 rfl)⟩) be (fun aa=>?_)
   refine oN 1 [(6,sv aa bd)] [26,25,24,1] ?_
   refine oe (bn (nt (qr (oN 2 [(26,vi (w64 (a4.1 + 1)))] [6,25,24,1] ?_))))
   exact oe (ct bf (aa.1,aa.2) [26,25,24,6,1] [0] 0)
  refine qx (nx (nx (bh ?_)))
  have bg:=leafB ab b6 a7
  exact mp (a4.2,(a5.1,a5.2)) bg [6] [0] 0
 have bi:=(congrFun ay _).symm.trans az
 refine nt (qs (qr (oN 3 [(5,vb true),(4,sv a3.2 a3.1)] [] ?_)))
 refine oe (nt (qe (rt [.slice a3.2.1 a3.1.length a3.2.2,.bool true] (fun _ w hs=>?_))))
 rw [← sI bi]
 exact ⟨a3.2,rfl,hs.kept.toBelow,(hs.takeR (is:=[0]) rfl).fresh⟩
theorem c_impl_Eval {W : World} {x0 : List Node} {a0_0 : Option Addr} {c0_0 : Nat} {x1 : List Frac} {a1_0 : Option Addr} {c1_0 : Nat} {r : Frac × Bool} (h : impl_Eval x0 x1 = some r) (hv0_0 : SlView W x0 a0_0 c0_0) (hv1_0 : SlView W x1 a1_0 c1_0) :
  Gives0 Tryz.prog 191 #[.slice a0_0 x0.length c0_0,.slice a1_0 x1.length c1_0] W (.tuple #[vFrac r.1,.bool r.2]):=by
 unfold impl_Eval at h
 refine en Tryz.func191 Tryz.ntmps191 ?_
 refine qs (qr (oB 2 [(4,.p 0 0)] [0,1] [(216,(eFrac (Frac.mk 0 0)))] ?_))
 refine oe (nt (qs (qr (oN 2 [(10,vs a1_0 x1 c1_0),(9,vs a0_0 x0 c0_0)] [4] ?_))))
 obtain ⟨a3,a7,a8⟩:=bS h
 refine k1 (fun _ w hs=>c_impl_EvalAll a7 (hv0_0.k hs) (hv1_0.k hs)) (fun a5=>?_)
 refine oN 5 [(7,vb a3.2),(6,sv a5 a3.1)] [4] ?_
 refine oe (nt (qs (qs (qr (oN 2 [(15,vb (!a3.2))] [6,4] ?_)))))
 refine oe (nt (cC a8 (fun a9=>?_) (fun aa=>?_)))
 ·refine qs (qr (oN 3 [(5,vb false)] [4] ?_))
  refine oe (nt (qe (nr ?_)))
  obtain rfl:=sI a9
  exact re [vFrac (Frac.mk 0 0),.bool false]
 refine qk (nt (qs (qr (oN 4 [(20,vi (w64 ((a3.1.length : Int) - 1))),(17,sv a5 a3.1)] [4] ?_))))
 obtain ⟨a4,a6,ab⟩:=bS aa
 refine oi 2 (fun _ w hs=>(hs.view 0 rfl)) a6 ?_
 refine ol 216 0 (vFrac a4) (fun _ w hs=>(hs.view 0 rfl).flatq a6) ?_
 refine oB 2 [(5,vb true)] [4] [(216,(eFrac a4))] ?_
 refine oe (nt (qe ?_))
 obtain rfl:=sI ab
 exact re [vFrac a4,.bool true]
theorem c_impl_floorDiv {W : World} {x0 : Int} {x1 : Int} {r : Int} (h : impl_floorDiv x0 x1 = some r)  :
  Gives0 Tryz.prog 224 #[.int .i64 x0,.int .i64 x1] W (.int .i64 r):=by
 unfold impl_floorDiv at h
 refine en Tryz.func224 Tryz.ntmps224 ?_
 refine qs (qr (oN 1 [] [0,1] ?_))
 refine oe (nt (qs (qr (oN 2 [(7,vi x1),(6,vi x0)] [0,1] ?_))))
 obtain ⟨ag,a4,a5⟩:=bS h
 refine JO_div rfl (by kernel_rfl) (op:=.quo) (k:=.i64) (x:=x0) (y:=x1) (by kernel_rfl) (nz_some a4) rfl ?_
 refine oN 1 [(5,vi (w64 (Int.tdiv x0 x1)))] [0,1] ?_
 refine oe (nt (qs (qs (qr (oN 2 [(10,vi x1),(9,vi x0)] [5] ?_)))))
 obtain ⟨ah,a6,a7⟩:=bS a5
 refine JO_div rfl (by kernel_rfl) (op:=.rem) (k:=.i64) (x:=x0) (y:=x1) (by kernel_rfl) (nz_some a6) rfl ?_
 refine oN 1 [(12,vb (decide ((Int.tmod x0 x1) < 0)))] [5] ?_
 refine oe (nt ?_)
 obtain ⟨a8,a9,aa⟩:=jS a7
 refine JC_cutP (τ:=(Int) × (Unit)) (fun y=>a8 y.1 = some r) (fun a3=>[(5,vi a3.1)]) (fun a3=>[]) (fun a3=>[]) ?_ (fun a3 ab=>?_)
 ·refine cC aa (fun ac=>?_) (fun ae=>?_)
  ·refine qr (oN 3 [(5,vi (w64 ((w64 (Int.tdiv x0 x1)) - 1)))] [] ?_)
   exact oe (mp (w64 ((w64 (Int.tdiv x0 x1)) - 1),()) ac [5] [] 0)
  exact qk (mp (w64 (Int.tdiv x0 x1),()) ae [5] [] 0)
 have af:=(congrFun a9 _).symm.trans ab
 refine nt (qs (qr (oN 2 [(4,vi a3.1)] [] ?_)))
 refine oe (nt (qe ?_))
 obtain rfl:=sI af
 exact re [.int .i64 a3.1]
theorem c_impl_RoundFrac {W : World} {x0 : Frac} {x1 : Int} {r : Int × Bool} (h : impl_RoundFrac x0 x1 = some r)  :
  Gives0 Tryz.prog 192 #[vFrac x0,.int .i64 x1] W (.tuple #[.int .i64 r.1,.bool r.2]):=by
 unfold impl_RoundFrac at h
 refine en Tryz.func192 Tryz.ntmps192 ?_
 refine qs (qr (oB 3 [(2,.p 0 0)] [1] [(216,(eFrac x0))] ?_))
 refine oe (nt (qs (qs ?_)))
 obtain ⟨a7,a8,a9⟩:=bS h
 refine JC_cut (τ:=Unit) (fun _=>[(1,vi x1),(2,.p 0 0),(16,vb a7)]) (fun _=>[(216,(eFrac x0))]) (fun _=>[]) ?_ (fun _=>?_)
 ·refine qr (oN 1 [(9,.v (vFrac x0))] [2,1] ?_)
  obtain ⟨aa,ab,ac⟩:=bS a8
  refine k0 (fun _ w hs=>c_impl_FracOk ab) ?_
  refine oN 2 [(12,vb (!aa))] [2,1] ?_
  refine oS 12 ac (fun ae=>?_) (fun af=>?_)
  ·refine oN 4 [(16,vb true)] [2,1] ?_
   refine oe ?_
   obtain rfl:=sI ae
   exact mt () [1,2,16] [] 1
  refine oN 1 [(13,vi x1)] [12,2,1] ?_
  obtain ⟨ag,ah,ai⟩:=bS af
  refine k0 (fun _ w hs=>c_impl_within ah) ?_
  refine oN 2 [(16,vb (!ag))] [2,1] ?_
  refine oe ?_
  obtain rfl:=sI ai
  exact mt () [1,2,16] [] 1
 refine nt (cC a9 (fun aj=>?_) (fun ak=>?_))
 ·refine qs (qr (oN 2 [(5,vb false),(4,vi 0)] [] ?_))
  refine oe (nt (qe (nr ?_)))
  obtain rfl:=sI aj
  exact re [.int .i64 0,.bool false]
 refine qk (nt (qs (qr (oN 4 [(20,vi x0.Den),(18,vi x0.Num)] [1,2] ?_))))
 obtain ⟨a3,al,am⟩:=bS ak
 refine k0 (fun _ w hs=>c_impl_floorDiv al) ?_
 refine oN 1 [(6,vi a3)] [1,2] ?_
 refine oe (nt (qs (qr (oN 8 [(7,vi (w64 (x0.Num - (w64 (a3 * x0.Den)))))] [6,1,2] ?_))))
 refine oe (nt (qs (qr (oN 1 [(8,vb false)] [7,6,1,2] ?_))))
 refine oe (nt (qs (qs (qr (oN 1 [(29,vi x1)] [8,7,6,2] ?_)))))
 refine oe (nt (qb (qs (qr (oN 2 [(30,vb (x1 == 2))] [29,8,7,6,2] ?_)))))
 refine oe (nt ?_)
 obtain ⟨an,ao,ap⟩:=jS am
 refine JC_cutP (τ:=(Bool) × (Unit)) (fun y=>an y.1 = some r) (fun a5=>[(8,vb a5.1),(6,vi a3)]) (fun a5=>[(216,(eFrac x0))]) (fun a5=>[]) ?_ (fun a5 aq=>?_)
 ·refine cC ap (fun ar=>?_) (fun au=>?_)
  ·refine qr (oN 3 [(8,vb (decide ((w64 (x0.Num - (w64 (a3 * x0.Den)))) > 0)))] [6] ?_)
   exact oe (mp (decide ((w64 (x0.Num - (w64 (a3 * x0.Den)))) > 0),()) ar [8,6] [] 1)
  refine qs (qr (oN 2 [(34,vb (x1 == 3))] [29,8,7,6,2] ?_))
  refine oe (nt (cC au (fun av=>?_) (fun aw=>?_)))
  ·refine qr (oN 6 [(8,vb (decide ((w64 (2 * (w64 (x0.Num - (w64 (a3 * x0.Den)))))) ≥ x0.Den)))] [6] ?_)
   exact oe (mp (decide ((w64 (2 * (w64 (x0.Num - (w64 (a3 * x0.Den)))))) ≥ x0.Den),()) av [8,6] [] 1)
  refine qs (qr (oN 2 [(41,vb (x1 == 4))] [8,7,6,2] ?_))
  refine oe (nt (cC aw (fun ax=>?_) (fun ay=>?_)))
  ·obtain ⟨a6,az,b4⟩:=bS ax
   refine JC_cut (τ:=Unit) (fun _=>[(6,vi a3),(8,vb a6)]) (fun _=>[(216,(eFrac x0))]) (fun _=>[]) ?_ (fun _=>?_)
   ·refine qr (oN 6 [(48,vb (decide ((w64 (2 * (w64 (x0.Num - (w64 (a3 * x0.Den)))))) > x0.Den)))] [7,6,2] ?_)
    refine oS 48 az (fun b5=>?_) (fun b6=>?_)
    ·refine oN 12 [(8,vb true)] [6] ?_
     refine oe ?_
     obtain rfl:=sI b5
     exact mt () [6,8] [] 1
    refine oN 6 [(54,vb ((w64 (2 * (w64 (x0.Num - (w64 (a3 * x0.Den)))))) == x0.Den))] [48,6] ?_
    refine oS 54 b6 (fun b7=>?_) (fun b8=>?_)
    ·refine oN 6 [(8,vb ((Int.tmod a3 2) != 0))] [6] ?_
     refine oe ?_
     obtain rfl:=sI b7
     exact mt () [6,8] [] 1
    refine oN 6 [(8,vb false)] [6] ?_
    refine oe ?_
    obtain rfl:=sI b8
    exact mt () [6,8] [] 1
   exact mp (a6,()) b4 [8,6] [] 1
  exact qk (mp (false,()) ay [8,6] [] 1)
 have b9:=(congrFun ao _).symm.trans aq
 refine bn (nt (qs (qs (qr (oN 1 [(60,vb a5.1)] [6] ?_)))))
 refine oe (nt ?_)
 obtain ⟨ba,bb,bc⟩:=jS b9
 refine JC_cutP (τ:=(Int) × (Unit)) (fun y=>ba y.1 = some r) (fun a4=>[(6,vi a4.1)]) (fun a4=>[(216,(eFrac x0))]) (fun a4=>[]) ?_ (fun a4 bd=>?_)
 ·refine cC bc (fun be=>?_) (fun bf=>?_)
  ·refine qr (oN 3 [(6,vi (w64 (a3 + 1)))] [] ?_)
   exact oe (mp (w64 (a3 + 1),()) be [6] [] 1)
  exact qk (mp (a3,()) bf [6] [] 1)
 have bg:=(congrFun bb _).symm.trans bd
 refine nt (qs (qr (oN 3 [(5,vb true),(4,vi a4.1)] [] ?_)))
 refine oe (nt (qe ?_))
 obtain rfl:=sI bg
 exact re [.int .i64 a4.1,.bool true]
theorem c_impl_Figure {W : World} {x0 : Book} {a0_0 : Option Addr} {c0_0 : Nat} {x1 : Int} {x2 : Int} {x3 : Int} {x4 : List Frac} {a4_0 : Option Addr} {c4_0 : Nat} {r : Int × Int × Bool} (h : impl_Figure x0 x1 x2 x3 x4 = some r) (hv0_0 : SlView W x0.Rules a0_0 c0_0) (hv4_0 : SlView W x4 a4_0 c4_0) :
  Gives0 Tryz.prog 147 #[vBook x0 (a0_0,c0_0),.int .i64 x1,.int .i64 x2,.int .i64 x3,.slice a4_0 x4.length c4_0] W (.tuple #[.int .i64 r.1,.int .i64 r.2.1,.bool r.2.2]):=by
 unfold impl_Figure at h
 refine en Tryz.func147 Tryz.ntmps147 ?_
 refine qs (qr (oB 4 [(5,.p 0 0)] [1,2,3,4] [(42,(eBook x0 (a0_0,c0_0)))] ?_))
 refine oe (nt (qs (qr (oN 4 [(21,vi x3),(20,vi x2),(19,vi x1),(18,.v (vBook x0 (a0_0,c0_0)))] [5,4] ?_))))
 obtain ⟨a3,a8,a9⟩:=bS h
 refine k0 (fun _ w hs=>c_impl_RuleFor a8 (hv0_0.k hs)) ?_
 refine oN 1 [(13,vi a3)] [5,4] ?_
 refine oe (nt (qs (qs (qr (oN 2 [(24,vb (decide (a3 < 0)))] [13,5,4] ?_)))))
 refine oe (nt (cC a9 (fun aa=>?_) (fun ab=>?_)))
 ·refine qs (qr (oN 3 [(12,vb false),(11,vi 0),(10,vi 0)] [] ?_))
  refine oe (nt (qe (nr ?_)))
  obtain rfl:=sI aa
  exact re [.int .i64 0,.int .i64 0,.bool false]
 refine qk (nt (qs (qr (oN 3 [(28,vi a3),(27,vs a0_0 x0.Rules c0_0)] [13,5,4] ?_))))
 obtain ⟨ac,a6,ae⟩:=bS ab
 refine oi 7 (fun _ w hs=>(hv0_0.k hs)) a6 ?_
 refine oN 1 [(30,.q a0_0 (Int.toNat a3 * 7 + 6))] [13,5,4] ?_
 obtain ⟨_,⟨af,ag,rfl,ah⟩,ai⟩:=SlView.at hv0_0 (idx_some a6).2.2
 refine ol 186 6 (.slice af ac.Nodes.length ag) (fun _ w hs=>⟨(hv0_0.k hs).ne (idx_some a6).2.2,ai.kept hs.kept⟩) ?_
 refine oN 1 [(32,vs a4_0 x4 c4_0)] [31,13,5] ?_
 obtain ⟨a5,aj,ak⟩:=bS ae
 refine k0 (fun _ w hs=>c_impl_Eval aj (ah.k hs) (hv4_0.k hs)) ?_
 refine oB 6 [(15,vb a5.2),(14,.p 1 0)] [13,5] [(42,(eBook x0 (a0_0,c0_0))),(216,(eFrac a5.1))] ?_
 refine oe (nt (qs (JC_quiet (by kernel_rfl) (by kernel_rfl) ?_)))
 refine qN 4 [(40,vi a3),(39,vs a0_0 x0.Rules c0_0),(37,.v (vFrac a5.1))] [15,13] ?_
 obtain ⟨al,a7,am⟩:=bS ak
 refine qi 7 (fun _ w hs=>(hv0_0.k hs)) a7 ?_
 refine qN 1 [(42,.q a0_0 (Int.toNat a3 * 7 + 5))] [37,15,13] ?_
 obtain ⟨_,⟨az,b4,rfl,b5⟩,an⟩:=SlView.at hv0_0 (idx_some a7).2.2
 refine ql 3 5 (.int .i64 al.Mode) (fun _ w hs=>⟨(hv0_0.k hs).ne (idx_some a7).2.2,an.kept hs.kept⟩) ?_
 obtain ⟨a4,ao,ap⟩:=bS am
 refine q0 (fun _ w hs=>c_impl_RoundFrac ao) ?_
 refine qN 5 [(17,vb a4.2),(16,vi a4.1)] [15,13] ?_
 refine qz (nt (qs (qs ?_)))
 obtain ⟨aq,ar,au⟩:=bS ap
 refine JC_cut (τ:=Unit) (fun _=>[(13,vi a3),(16,vi a4.1),(52,vb aq)]) (fun _=>[(42,(eBook x0 (a0_0,c0_0))),(216,(eFrac a5.1))]) (fun _=>[]) ?_ (fun _=>?_)
 ·refine qr (oN 3 [(49,vb (!a5.2))] [17,16,13] ?_)
  refine oS 49 ar (fun av=>?_) (fun aw=>?_)
  ·refine oN 3 [(52,vb true)] [16,13] ?_
   refine oe ?_
   obtain rfl:=sI av
   exact mt () [13,16,52] [] 2
  refine oN 3 [(52,vb (!a4.2))] [16,13] ?_
  refine oe ?_
  obtain rfl:=sI aw
  exact mt () [13,16,52] [] 2
 refine nt (cC au (fun ax=>?_) (fun ay=>?_))
 ·refine qs (qr (oN 3 [(12,vb false),(11,vi 0),(10,vi 0)] [] ?_))
  refine oe (nt (qe (nr ?_)))
  obtain rfl:=sI ax
  exact re [.int .i64 0,.int .i64 0,.bool false]
 refine qk (nt (qs (qr (oN 5 [(12,vb true),(11,vi a3),(10,vi a4.1)] [] ?_))))
 refine oe (nt (qe ?_))
 obtain rfl:=sI ay
 exact re [.int .i64 a4.1,.int .i64 a3,.bool true]
theorem c_impl_EntitlementAt {W : World} {x0 : Case} {b0 : AC × AC × AC × AC × AC} {x1 : Int} {x2 : Int} {r : Int} (h : impl_EntitlementAt x0 x1 x2 = some r) (hv0_0 : SlView W x0.Book.Rules b0.1.1 b0.1.2) (hv0_1 : SlView W x0.Store.Facts b0.2.1.1 b0.2.1.2) (hv0_2 : SlView W x0.Series.Points b0.2.2.1.1 b0.2.2.1.2) (hv0_3 : SlView W x0.Member.Spells b0.2.2.2.1.1 b0.2.2.2.1.2) (hv0_4 : SlView W x0.Member.Events b0.2.2.2.2.1 b0.2.2.2.2.2) :
  Gives0 Tryz.prog 94 #[vCase x0 b0,.int .i64 x1,.int .i64 x2] W (.int .i64 r):=by
 unfold impl_EntitlementAt at h
 refine en Tryz.func94 Tryz.ntmps94 ?_
 refine qs (qr (oB 2 [(3,.p 0 0)] [1,2] [(54,(eCase x0 b0))] ?_))
 refine oe (nt (qs (qs ?_)))
 obtain ⟨a6,a7,a8⟩:=bS h
 refine JC_cut (τ:=Unit) (fun _=>[(1,vi x1),(2,vi x2),(3,.p 0 0),(22,vb a6)]) (fun _=>[(54,(eCase x0 b0))]) (fun _=>[]) ?_ (fun _=>?_)
 ·refine qr (oN 1 [(12,.v (vCase x0 b0))] [3,1,2] ?_)
  obtain ⟨a9,aa,ab⟩:=bS a7
  refine k0 (fun _ w hs=>c_impl_CaseOk (b0:=b0) aa (hv0_0.k hs) (hv0_1.k hs) (hv0_2.k hs) (hv0_3.k hs) (hv0_4.k hs)) ?_
  refine oN 2 [(15,vb (!a9))] [3,1,2] ?_
  refine oS 15 ab (fun ac=>?_) (fun ae=>?_)
  ·refine oN 7 [(22,vb true)] [3,1,2] ?_
   refine oe ?_
   obtain rfl:=sI ac
   exact mt () [1,2,3,22] [] 1
  refine oN 4 [(19,vi x1),(18,sv b0.2.2.2.2 x0.Member.Events)] [15,3,1,2] ?_
  obtain ⟨af,ag,ah⟩:=bS ae
  refine k0 (fun _ w hs=>c_impl_StatusAt ag (hv0_4.k hs)) ?_
  refine oN 2 [(22,vb (af != 3))] [3,1,2] ?_
  refine oe ?_
  obtain rfl:=sI ah
  exact mt () [1,2,3,22] [] 1
 refine nt (cC a8 (fun ai=>?_) (fun aj=>?_))
 ·refine qs (qr (oN 1 [(6,vi 0)] [] ?_))
  refine oe (nt (qe (nr ?_)))
  obtain rfl:=sI ai
  exact re [.int .i64 0]
 refine qk (nt (qs (qr (oN 3 [(26,vi x2),(25,vi x1),(24,.v (vCase x0 b0))] [1,3] ?_))))
 obtain ⟨a4,ak,al⟩:=bS aj
 refine k1 (fun _ w hs=>c_impl_VarsFor (b0:=b0) ak (hv0_0.k hs) (hv0_1.k hs) (hv0_2.k hs) (hv0_3.k hs) (hv0_4.k hs)) (fun a5=>?_)
 refine oN 5 [(8,vb a4.2),(7,sv a5 a4.1)] [1,3] ?_
 refine oe (nt (qs (qr (oN 7 [(37,sv a5 a4.1),(36,vi x0.Member.Joined),(33,vi x1),(32,.v (vBook x0.Book b0.1))] [8] ?_))))
 obtain ⟨a3,am,an⟩:=bS al
 refine k0 (fun _ w hs=>c_impl_Figure am (hv0_0.k hs) (hs.view 0 rfl)) ?_
 refine oN 7 [(11,vb a3.2.2),(9,vi a3.1)] [8] ?_
 refine oe (nt (qs (qs ?_)))
 obtain ⟨ao,ap,aq⟩:=bS an
 refine JC_cut (τ:=Unit) (fun _=>[(9,vi a3.1),(47,vb ao)]) (fun _=>[(54,(eCase x0 b0))]) (fun _=>[]) ?_ (fun _=>?_)
 ·refine qr (oN 3 [(44,vb (!a4.2))] [11,9] ?_)
  refine oS 44 ap (fun ar=>?_) (fun au=>?_)
  ·refine oN 3 [(47,vb true)] [9] ?_
   refine oe ?_
   obtain rfl:=sI ar
   exact mt () [9,47] [] 1
  refine oN 3 [(47,vb (!a3.2.2))] [9] ?_
  refine oe ?_
  obtain rfl:=sI au
  exact mt () [9,47] [] 1
 refine nt (cC aq (fun av=>?_) (fun aw=>?_))
 ·refine qs (qr (oN 1 [(6,vi 0)] [] ?_))
  refine oe (nt (qe (nr ?_)))
  obtain rfl:=sI av
  exact re [.int .i64 0]
 refine qk (nt (qs (qr (oN 4 [(6,vi (imax 0 (imin a3.1 10000000)))] [] ?_))))
 refine oe (nt (qe ?_))
 obtain rfl:=sI aw
 exact re [.int .i64 (imax 0 (imin a3.1 10000000))]
theorem c_impl_DueNow {W : World} {x0 : Office} {b0 : AC × AC × AC × AC × AC × AC} {r : Int} (h : impl_DueNow x0 = some r) (hv0_0 : SlView W x0.Case.Book.Rules b0.1.1 b0.1.2) (hv0_1 : SlView W x0.Case.Store.Facts b0.2.1.1 b0.2.1.2) (hv0_2 : SlView W x0.Case.Series.Points b0.2.2.1.1 b0.2.2.1.2) (hv0_3 : SlView W x0.Case.Member.Spells b0.2.2.2.1.1 b0.2.2.2.1.2) (hv0_4 : SlView W x0.Case.Member.Events b0.2.2.2.2.1.1 b0.2.2.2.2.1.2) (hv0_5 : SlView W x0.Paid b0.2.2.2.2.2.1 b0.2.2.2.2.2.2) :
  Gives0 Tryz.prog 49 #[vOffice x0 b0] W (.int .i64 r):=by
 unfold impl_DueNow at h
 refine en Tryz.func49 Tryz.ntmps49 ?_
 refine qs (qr (oB 2 [(1,.p 0 0)] [] [(57,(eOffice x0 b0))] ?_))
 refine oe (nt (qs (qs (qr (oN 1 [(5,.v (vOffice x0 b0))] [1] ?_)))))
 obtain ⟨a7,a8,a9⟩:=bS h
 refine k0 (fun _ w hs=>c_impl_OfficeOk (b0:=b0) a8 (hv0_0.k hs) (hv0_1.k hs) (hv0_2.k hs) (hv0_3.k hs) (hv0_4.k hs) (hv0_5.k hs)) ?_
 refine oN 1 [(7,vb (!a7))] [1] ?_
 refine oe (nt (cC a9 (fun aa=>?_) (fun ab=>?_)))
 ·refine qs (qr (oN 1 [(2,vi 0)] [] ?_))
  refine oe (nt (qe (nr ?_)))
  obtain rfl:=sI aa
  exact re [.int .i64 0]
 refine qk (nt (qs (qr (oN 2 [(9,sv b0.2.2.2.2.2 x0.Paid)] [1] ?_))))
 obtain ⟨ac,ae,af⟩:=bS ab
 refine k0 (fun _ w hs=>c_impl_total ae (hv0_5.k hs)) ?_
 refine oN 2 [(3,vi (w64 (0 - ac)))] [1] ?_
 refine oe (nt (qs (qs (qr (oN 3 [(4,vi x0.Start)] [3,1] ?_)))))
 refine oe (nt ?_)
 obtain ⟨b4,ag,a5⟩:=bS af
 obtain ⟨ah,ai,a5⟩:=brkS a5
 refine JC_cutP (τ:=(Int × Int × Int × Int) × (Unit)) (fun y=>ah y.1 = some r) (fun a4=>[(3,vi a4.1.1)]) (fun a4=>[(57,(eOffice (Office.mk (Case.mk x0.Case.Book x0.Case.Store x0.Case.Series (Member.mk a4.1.2.1 a4.1.2.2.1 x0.Case.Member.Spells x0.Case.Member.Events)) a4.1.2.2.2 x0.Paid) b0))]) (fun a4=>[]) ?_ (fun a4 aj=>?_)
 ·refine qb (lp Unit ag (fun a3 a6=>[(4,vi a3.1),(3,vi a3.2),(1,.p 0 0)]) (fun a3 a6=>[(57,(eOffice x0 b0))]) (fun a3 a6=>[]) () [4,3,1] [] 1 (fun a3 a6 b5 ak al=>?_))
  refine qs (qs (qr (oN 2 [(15,.v (vOffice x0 b0)),(14,vi a3.1)] [4,3,1] ?_)))
  obtain ⟨am,an,ao⟩:=bS ak
  refine k0 (fun _ w hs=>c_impl_now (b0:=b0) an (hv0_0.k hs) (hv0_1.k hs) (hv0_2.k hs) (hv0_3.k hs) (hv0_4.k hs) (hv0_5.k hs)) ?_
  refine oN 1 [(17,vb (decide (a3.1 ≤ am)))] [4,3,1] ?_
  refine oe (nt (cC ao (fun ap=>?_) (fun aq=>?_)))
  ·refine qk (nt (qs (qb (JC_quiet (by kernel_rfl) (by kernel_rfl) ?_))))
   refine qN 5 [(24,.v (vOffice x0 b0)),(23,vi a3.1),(22,.v (vCase x0.Case (b0.1,b0.2.1,b0.2.2.1,b0.2.2.2.1,b0.2.2.2.2.1))),(20,vi a3.2)] [4,1] ?_
   obtain ⟨b6,ar,au⟩:=bS ap
   refine q0 (fun _ w hs=>c_impl_now (b0:=b0) ar (hv0_0.k hs) (hv0_1.k hs) (hv0_2.k hs) (hv0_3.k hs) (hv0_4.k hs) (hv0_5.k hs)) ?_
   obtain ⟨av,aw,ax⟩:=bS au
   refine q0 (fun _ w hs=>c_impl_EntitlementAt (b0:=(b0.1,b0.2.1,b0.2.2.1,b0.2.2.2.1,b0.2.2.2.2.1)) aw (hv0_0.k hs) (hv0_1.k hs) (hv0_2.k hs) (hv0_3.k hs) (hv0_4.k hs)) ?_
   refine qN 2 [(3,vi (w64 (a3.2 + av)))] [4,1] ?_
   refine qz (bn (nt (qr (oN 3 [(4,vi (w64 (a3.1 + 1)))] [3,1] ?_))))
   exact oe (ct ax () [4,3,1] [] 1)
  refine qx (nx (nx (bh ?_)))
  have ay:=leafB al aq a5
  exact mp ((a3.2,x0.Case.Member.Birth,x0.Case.Member.Joined,x0.Start),()) ay [3] [] 1
 have az:=(congrFun ai _).symm.trans aj
 refine nt (qs (qr (oN 2 [(2,vi a4.1.1)] [] ?_)))
 refine oe (nt (qe ?_))
 obtain rfl:=sI az
 exact re [.int .i64 a4.1.1]
theorem c_impl_PayMonth {W : World} {x0 : Office} {b0 : AC × AC × AC × AC × AC × AC} {r : Office × Int × Bool} (h : impl_PayMonth x0 = some r) (hv0_0 : SlView W x0.Case.Book.Rules b0.1.1 b0.1.2) (hv0_1 : SlView W x0.Case.Store.Facts b0.2.1.1 b0.2.1.2) (hv0_2 : SlView W x0.Case.Series.Points b0.2.2.1.1 b0.2.2.1.2) (hv0_3 : SlView W x0.Case.Member.Spells b0.2.2.2.1.1 b0.2.2.2.1.2) (hv0_4 : SlView W x0.Case.Member.Events b0.2.2.2.2.1.1 b0.2.2.2.2.1.2) (hv0_5 : SlView W x0.Paid b0.2.2.2.2.2.1 b0.2.2.2.2.2.2) :
  Gives Tryz.prog 35 #[vOffice x0 b0] W (fun y : AC × AC × AC × AC × AC × AC=>.tuple #[vOffice r.1 y,.int .i64 r.2.1,.bool r.2.2]) (fun y=>(rOffice r.1 y)):=by
 unfold impl_PayMonth at h
 refine en Tryz.func35 Tryz.ntmps35 ?_
 refine qs (qr (oB 4 [(2,.p 1 0),(1,.p 0 0)] [] [(57,(eOffice x0 b0)),(57,[.slice none 0 0,.slice none 0 0,.slice none 0 0,.int .i64 0,.int .i64 0,.slice none 0 0,.slice none 0 0,.int .i64 0,.slice none 0 0])] ?_))
 refine oe (nt (qs (qr (oN 1 [(7,.v (vOffice x0 b0))] [2,1] ?_))))
 obtain ⟨a4,ab,ac⟩:=bS h
 refine k1 (fun _ w hs=>c_impl_copyOffice (b0:=b0) ab (hv0_0.k hs) (hv0_1.k hs) (hv0_2.k hs) (hv0_3.k hs) (hv0_4.k hs) (hv0_5.k hs)) (fun a3=>?_)
 refine oB 2 [(5,.p 2 0)] [2,1] [(57,(eOffice x0 b0)),(57,[.slice none 0 0,.slice none 0 0,.slice none 0 0,.int .i64 0,.int .i64 0,.slice none 0 0,.slice none 0 0,.int .i64 0,.slice none 0 0]),(57,(eOffice a4 a3))] ?_
 refine oe (nt (qs (qr (oN 1 [(9,.v (vOffice x0 b0))] [5,2,1] ?_))))
 obtain ⟨a6,ae,af⟩:=bS ac
 refine k0 (fun _ w hs=>c_impl_DueNow (b0:=b0) ae (hv0_0.k hs) (hv0_1.k hs) (hv0_2.k hs) (hv0_3.k hs) (hv0_4.k hs) (hv0_5.k hs)) ?_
 refine oN 2 [(6,vi (imax 0 a6))] [5,2,1] ?_
 refine oe (nt (qs (qr (oN 3 [(14,vi (imax 0 a6)),(13,sv a3.2.2.2.2.2 a4.Paid)] [6,5,2,1] ?_))))
 refine ob [] (rOffice a4 a3) 3 1 [.int .i64 (imax 0 a6)] ([imax 0 a6] : List Int) (own_flat (by kernel_rfl)) (fun a9=>?_)
 refine JO_res (R':=[SlRes 3 a4.Paid a3.2.2.2.2.2.1 a3.2.2.2.2.2.2,SlRes 3 ([imax 0 a6] : List Int) a9.1 a9.2,SlRes 188 a4.Case.Book.Rules a3.1.1 a3.1.2,SlRes 84 a4.Case.Store.Facts a3.2.1.1 a3.2.1.2,SlRes 85 a4.Case.Series.Points a3.2.2.1.1 a3.2.2.1.2,SlRes 191 a4.Case.Member.Spells a3.2.2.2.1.1 a3.2.2.2.1.2,SlRes 195 a4.Case.Member.Events a3.2.2.2.2.1.1 a3.2.2.2.2.1.2]) [6,0,0,0,0,0,0] (by kernel_rfl) ?_
 obtain ⟨a7,ag,ah⟩:=bS af
 refine oa 55 a9.2 Tryz.t3 (.int .i64 0) (fun _ w hs=>⟨a9.2,(hs.view 1 rfl)⟩) ag (fun a5=>?_)
 refine oB 2 [] [6,5,2,1] [(57,(eOffice x0 b0)),(57,[.slice none 0 0,.slice none 0 0,.slice none 0 0,.int .i64 0,.int .i64 0,.slice none 0 0,.slice none 0 0,.int .i64 0,.slice none 0 0]),(57,(eOffice (Office.mk a4.Case a4.Start a7) (a3.1,a3.2.1,a3.2.2.1,a3.2.2.2.1,a3.2.2.2.2.1,a5)))] ?_
 refine oe (nt (qs (qs ?_)))
 obtain ⟨ai,aj,ak⟩:=bS ah
 refine JC_cut (τ:=Unit) (fun _=>[(1,.p 0 0),(2,.p 1 0),(5,.p 2 0),(6,vi (imax 0 a6)),(25,vb ai)]) (fun _=>[(57,(eOffice x0 b0)),(57,[.slice none 0 0,.slice none 0 0,.slice none 0 0,.int .i64 0,.int .i64 0,.slice none 0 0,.slice none 0 0,.int .i64 0,.slice none 0 0]),(57,(eOffice (Office.mk a4.Case a4.Start a7) (a3.1,a3.2.1,a3.2.2.1,a3.2.2.2.1,a3.2.2.2.2.1,a5)))]) (fun _=>[SlRes 188 a4.Case.Book.Rules a3.1.1 a3.1.2,SlRes 84 a4.Case.Store.Facts a3.2.1.1 a3.2.1.2,SlRes 85 a4.Case.Series.Points a3.2.2.1.1 a3.2.2.1.2,SlRes 191 a4.Case.Member.Spells a3.2.2.2.1.1 a3.2.2.2.1.2,SlRes 195 a4.Case.Member.Events a3.2.2.2.2.1.1 a3.2.2.2.2.1.2,SlRes 3 a7 a5.1 a5.2]) ?_ (fun _=>?_)
 ·refine qr (oN 1 [(18,.v (vOffice x0 b0))] [6,5,2,1] ?_)
  obtain ⟨al,am,an⟩:=bS aj
  refine k0 (fun _ w hs=>c_impl_OfficeOk (b0:=b0) am (hv0_0.k hs) (hv0_1.k hs) (hv0_2.k hs) (hv0_3.k hs) (hv0_4.k hs) (hv0_5.k hs)) ?_
  refine oN 2 [(21,vb (!al))] [6,5,2,1] ?_
  refine oS 21 an (fun ao=>?_) (fun ap=>?_)
  ·refine oN 4 [(25,vb true)] [6,5,2,1] ?_
   refine oe ?_
   obtain rfl:=sI ao
   exact mt () [1,2,5,6,25] [2,2,2,2,2,0] 3
  refine oN 1 [(22,.v (vOffice (Office.mk a4.Case a4.Start a7) (a3.1,a3.2.1,a3.2.2.1,a3.2.2.2.1,a3.2.2.2.2.1,a5)))] [21,6,5,2,1] ?_
  obtain ⟨aq,ar,au⟩:=bS ap
  refine k0 (fun _ w hs=>c_impl_OfficeOk (b0:=(a3.1,a3.2.1,a3.2.2.1,a3.2.2.2.1,a3.2.2.2.2.1,a5)) ar (hs.view 2 rfl) (hs.view 3 rfl) (hs.view 4 rfl) (hs.view 5 rfl) (hs.view 6 rfl) (hs.view 0 rfl)) ?_
  refine oN 2 [(25,vb (!aq))] [6,5,2,1] ?_
  refine oe ?_
  obtain rfl:=sI au
  exact mt () [1,2,5,6,25] [2,2,2,2,2,0] 3
 refine nt (cC ak (fun av=>?_) (fun aw=>?_))
 ·refine qs (qr (oN 1 [(26,.v (vOffice x0 b0))] [2] ?_))
  obtain ⟨aa,ax,ay⟩:=bS av
  refine k1 (fun _ w hs=>c_impl_copyOffice (b0:=b0) ax (hv0_0.k hs) (hv0_1.k hs) (hv0_2.k hs) (hv0_3.k hs) (hv0_4.k hs) (hv0_5.k hs)) (fun a8=>?_)
  refine oB 3 [(4,vb false),(3,vi 0)] [2] [(57,(eOffice x0 b0)),(57,(eOffice aa a8)),(57,(eOffice (Office.mk a4.Case a4.Start a7) (a3.1,a3.2.1,a3.2.2.1,a3.2.2.2.1,a3.2.2.2.2.1,a5)))] ?_
  refine oe (nt (qe (nr (rt [vOffice aa a8,.int .i64 0,.bool false] (fun _ w hs=>?_)))))
  rw [← sI ay]
  exact ⟨(a8.1,a8.2.1,a8.2.2.1,a8.2.2.2.1,a8.2.2.2.2.1,a8.2.2.2.2.2),rfl,hs.kept.toBelow,(hs.takeR (is:=[0,0,0,0,0,0]) rfl).fresh⟩
 refine qk (nt (qs (qr (oB 5 [(4,vb true),(3,vi (imax 0 a6))] [2] [(57,(eOffice x0 b0)),(57,(eOffice (Office.mk a4.Case a4.Start a7) (a3.1,a3.2.1,a3.2.2.1,a3.2.2.2.1,a3.2.2.2.2.1,a5))),(57,(eOffice (Office.mk a4.Case a4.Start a7) (a3.1,a3.2.1,a3.2.2.1,a3.2.2.2.1,a3.2.2.2.2.1,a5)))] ?_))))
 refine oe (nt (qe (rt [vOffice (Office.mk a4.Case a4.Start a7) (a3.1,a3.2.1,a3.2.2.1,a3.2.2.2.1,a3.2.2.2.2.1,a5),.int .i64 (imax 0 a6),.bool true] (fun _ w hs=>?_))))
 rw [← sI aw]
 exact ⟨(a3.1,a3.2.1,a3.2.2.1,a3.2.2.2.1,a3.2.2.2.2.1,a5),rfl,hs.kept.toBelow,(hs.takeR (is:=[0,0,0,0,0,0]) rfl).fresh⟩
theorem c_impl_DoAct {W : World} {x0 : Office} {b0 : AC × AC × AC × AC × AC × AC} {x1 : Act} {r : Office × Int} (h : impl_DoAct x0 x1 = some r) (hv0_0 : SlView W x0.Case.Book.Rules b0.1.1 b0.1.2) (hv0_1 : SlView W x0.Case.Store.Facts b0.2.1.1 b0.2.1.2) (hv0_2 : SlView W x0.Case.Series.Points b0.2.2.1.1 b0.2.2.1.2) (hv0_3 : SlView W x0.Case.Member.Spells b0.2.2.2.1.1 b0.2.2.2.1.2) (hv0_4 : SlView W x0.Case.Member.Events b0.2.2.2.2.1.1 b0.2.2.2.2.1.2) (hv0_5 : SlView W x0.Paid b0.2.2.2.2.2.1 b0.2.2.2.2.2.2) :
  Gives Tryz.prog 33 #[vOffice x0 b0,vAct x1] W (fun y : AC × AC × AC × AC × AC × AC=>.tuple #[vOffice r.1 y,.int .i64 r.2]) (fun y=>(rOffice r.1 y)):=by
 unfold impl_DoAct at h
 refine en Tryz.func33 Tryz.ntmps33 ?_
 refine qs (qr (oB 4 [(4,.p 2 0),(3,.p 1 0),(2,.p 0 0)] [] [(57,(eOffice x0 b0)),(87,(eAct x1)),(57,[.slice none 0 0,.slice none 0 0,.slice none 0 0,.int .i64 0,.int .i64 0,.slice none 0 0,.slice none 0 0,.int .i64 0,.slice none 0 0])] ?_))
 refine oe (nt (qs (qr (oN 1 [(12,.v (vOffice x0 b0))] [4,3,2] ?_))))
 obtain ⟨ae,ah,ai⟩:=bS h
 refine k1 (fun _ w hs=>c_impl_copyOffice (b0:=b0) ah (hv0_0.k hs) (hv0_1.k hs) (hv0_2.k hs) (hv0_3.k hs) (hv0_4.k hs) (hv0_5.k hs)) (fun a7=>?_)
 refine oB 2 [(6,.p 3 0)] [4,3,2] [(57,(eOffice x0 b0)),(87,(eAct x1)),(57,[.slice none 0 0,.slice none 0 0,.slice none 0 0,.int .i64 0,.int .i64 0,.slice none 0 0,.slice none 0 0,.int .i64 0,.slice none 0 0]),(57,(eOffice ae a7))] ?_
 refine oe (nt (qs (qs ?_)))
 obtain ⟨aj,ak,al⟩:=bS ai
 refine JC_cut (τ:=Unit) (fun _=>[(2,.p 0 0),(3,.p 1 0),(4,.p 2 0),(6,.p 3 0),(21,vb aj)]) (fun _=>[(57,(eOffice x0 b0)),(87,(eAct x1)),(57,[.slice none 0 0,.slice none 0 0,.slice none 0 0,.int .i64 0,.int .i64 0,.slice none 0 0,.slice none 0 0,.int .i64 0,.slice none 0 0]),(57,(eOffice ae a7))]) (fun _=>(rOffice ae a7)) ?_ (fun _=>?_)
 ·refine qr (oN 1 [(14,.v (vOffice x0 b0))] [6,4,3,2] ?_)
  obtain ⟨am,an,ao⟩:=bS ak
  refine k0 (fun _ w hs=>c_impl_OfficeOk (b0:=b0) an (hv0_0.k hs) (hv0_1.k hs) (hv0_2.k hs) (hv0_3.k hs) (hv0_4.k hs) (hv0_5.k hs)) ?_
  refine oN 2 [(17,vb (!am))] [6,4,3,2] ?_
  refine oS 17 ao (fun ap=>?_) (fun aq=>?_)
  ·refine oN 4 [(21,vb true)] [6,4,3,2] ?_
   refine oe ?_
   obtain rfl:=sI ap
   exact mt () [2,3,4,6,21] [0,0,0,0,0,0] 4
  refine oN 1 [(18,.v (vAct x1))] [17,6,4,3,2] ?_
  obtain ⟨ar,au,av⟩:=bS aq
  refine k0 (fun _ w hs=>c_impl_ActOk au) ?_
  refine oN 2 [(21,vb (!ar))] [6,4,3,2] ?_
  refine oe ?_
  obtain rfl:=sI av
  exact mt () [2,3,4,6,21] [0,0,0,0,0,0] 4
 refine nt (cC al (fun aw=>?_) (fun ax=>?_))
 ·refine qs (qr (oB 3 [(5,vi (-1))] [4] [(57,(eOffice x0 b0)),(87,(eAct x1)),(57,(eOffice ae a7)),(57,(eOffice ae a7))] ?_))
  refine oe (nt (qe (nr (rt [vOffice ae a7,.int .i64 (-1)] (fun _ w hs=>?_)))))
  rw [← sI aw]
  exact ⟨(a7.1,a7.2.1,a7.2.2.1,a7.2.2.2.1,a7.2.2.2.2.1,a7.2.2.2.2.2),rfl,hs.kept.toBelow,(hs.takeR (is:=[0,0,0,0,0,0]) rfl).fresh⟩
 refine qk (nt (qs (qr (oN 1 [] [2,3,4,6] ?_))))
 refine oe (nt (qs (qs (qr (oN 2 [(24,vi x1.Kind)] [2,3,4,6] ?_)))))
 refine oe (nt (qb (qs (qr (oN 2 [(42,vb (x1.Kind == 1))] [24,2,3,4,6] ?_)))))
 refine oe (nt ?_)
 obtain ⟨ay,az,b4⟩:=jS ax
 refine JC_cutP (τ:=(Bool × (List Rule) × (List Fact) × (List Point) × Int × Int × (List Spell) × (List Event) × Int × (List Int)) × (AC × AC × AC × AC × AC × AC)) (fun y=>ay y.1 = some r) (fun a3=>[(4,.p 2 0),(6,.p 3 0),(7,vb a3.1.1)]) (fun a3=>[(57,(eOffice x0 b0)),(87,(eAct x1)),(57,[.slice none 0 0,.slice none 0 0,.slice none 0 0,.int .i64 0,.int .i64 0,.slice none 0 0,.slice none 0 0,.int .i64 0,.slice none 0 0]),(57,(eOffice (Office.mk (Case.mk (Book.mk a3.1.2.1) (Store.mk a3.1.2.2.1) (Series.mk a3.1.2.2.2.1) (Member.mk a3.1.2.2.2.2.1 a3.1.2.2.2.2.2.1 a3.1.2.2.2.2.2.2.1 a3.1.2.2.2.2.2.2.2.1)) a3.1.2.2.2.2.2.2.2.2.1 a3.1.2.2.2.2.2.2.2.2.2) a3.2))]) (fun a3=>[SlRes 188 a3.1.2.1 a3.2.1.1 a3.2.1.2,SlRes 84 a3.1.2.2.1 a3.2.2.1.1 a3.2.2.1.2,SlRes 85 a3.1.2.2.2.1 a3.2.2.2.1.1 a3.2.2.2.1.2,SlRes 191 a3.1.2.2.2.2.2.2.1 a3.2.2.2.2.1.1 a3.2.2.2.2.1.2,SlRes 195 a3.1.2.2.2.2.2.2.2.1 a3.2.2.2.2.2.1.1 a3.2.2.2.2.2.1.2,SlRes 3 a3.1.2.2.2.2.2.2.2.2.2 a3.2.2.2.2.2.2.1 a3.2.2.2.2.2.2.2]) ?_ (fun a3 b5=>?_)
 ·refine cC b4 (fun b6=>?_) (fun b7=>?_)
  ·refine qr (oN 3 [(47,.v (vFact x1.Fact)),(45,.v (vOffice x0 b0))] [4,6] ?_)
   obtain ⟨ab,b8,b9⟩:=bS b6
   refine k1 (fun _ w hs=>c_impl_LearnFact (b0:=b0) b8 (hv0_0.k hs) (hv0_1.k hs) (hv0_2.k hs) (hv0_3.k hs) (hv0_4.k hs) (hv0_5.k hs)) (fun a9=>?_)
   refine oB 5 [(7,vb ab.2)] [4,6] [(57,(eOffice x0 b0)),(87,(eAct x1)),(57,[.slice none 0 0,.slice none 0 0,.slice none 0 0,.int .i64 0,.int .i64 0,.slice none 0 0,.slice none 0 0,.int .i64 0,.slice none 0 0]),(57,(eOffice ab.1 a9))] ?_
   exact oe (mp ((ab.2,ab.1.Case.Book.Rules,ab.1.Case.Store.Facts,ab.1.Case.Series.Points,ab.1.Case.Member.Birth,ab.1.Case.Member.Joined,ab.1.Case.Member.Spells,ab.1.Case.Member.Events,ab.1.Start,ab.1.Paid),((a9.1.1,a9.1.2),(a9.2.1.1,a9.2.1.2),(a9.2.2.1.1,a9.2.2.1.2),(a9.2.2.2.1.1,a9.2.2.2.1.2),(a9.2.2.2.2.1.1,a9.2.2.2.2.1.2),(a9.2.2.2.2.2.1,a9.2.2.2.2.2.2))) b9 [4,6,7] [0,0,0,0,0,0] 4)
  refine qs (qr (oN 2 [(51,vb (x1.Kind == 2))] [2,3,4,6] ?_))
  refine oe (nt (cC b7 (fun ba=>?_) (fun bb=>?_)))
  ·refine qr (oN 3 [(56,.v (vPoint x1.Point)),(54,.v (vOffice x0 b0))] [4,6] ?_)
   obtain ⟨ac,bc,bd⟩:=bS ba
   refine k1 (fun _ w hs=>c_impl_LearnPoint (b0:=b0) bc (hv0_0.k hs) (hv0_1.k hs) (hv0_2.k hs) (hv0_3.k hs) (hv0_4.k hs) (hv0_5.k hs)) (fun aa=>?_)
   refine oB 5 [(7,vb ac.2)] [4,6] [(57,(eOffice x0 b0)),(87,(eAct x1)),(57,[.slice none 0 0,.slice none 0 0,.slice none 0 0,.int .i64 0,.int .i64 0,.slice none 0 0,.slice none 0 0,.int .i64 0,.slice none 0 0]),(57,(eOffice ac.1 aa))] ?_
   exact oe (mp ((ac.2,ac.1.Case.Book.Rules,ac.1.Case.Store.Facts,ac.1.Case.Series.Points,ac.1.Case.Member.Birth,ac.1.Case.Member.Joined,ac.1.Case.Member.Spells,ac.1.Case.Member.Events,ac.1.Start,ac.1.Paid),((aa.1.1,aa.1.2),(aa.2.1.1,aa.2.1.2),(aa.2.2.1.1,aa.2.2.1.2),(aa.2.2.2.1.1,aa.2.2.2.1.2),(aa.2.2.2.2.1.1,aa.2.2.2.2.1.2),(aa.2.2.2.2.2.1,aa.2.2.2.2.2.2))) bd [4,6,7] [0,0,0,0,0,0] 4)
  refine qs (qr (oN 1 [(8,vi 0)] [3,4,6] ?_))
  refine oe (nt (qs (qs (qr (oN 3 [(27,vi 0),(26,vi x1.N)] [8,4,6] ?_)))))
  refine oe (nt ?_)
  obtain ⟨bz,be,ag⟩:=bS bb
  obtain ⟨bf,bg,ag⟩:=brkS ag
  refine JC_cutP (τ:=(Int × (List Rule) × (List Fact) × (List Point) × Int × Int × (List Spell) × (List Event) × Int × (List Int)) × (AC × AC × AC × AC × AC × AC)) (fun y=>bf y.1 = some r) (fun a4=>[(8,vi a4.1.1),(4,.p 2 0),(6,.p 3 0)]) (fun a4=>[(57,(eOffice x0 b0)),(87,(eAct x1)),(57,[.slice none 0 0,.slice none 0 0,.slice none 0 0,.int .i64 0,.int .i64 0,.slice none 0 0,.slice none 0 0,.int .i64 0,.slice none 0 0]),(57,(eOffice (Office.mk (Case.mk (Book.mk a4.1.2.1) (Store.mk a4.1.2.2.1) (Series.mk a4.1.2.2.2.1) (Member.mk a4.1.2.2.2.2.1 a4.1.2.2.2.2.2.1 a4.1.2.2.2.2.2.2.1 a4.1.2.2.2.2.2.2.2.1)) a4.1.2.2.2.2.2.2.2.2.1 a4.1.2.2.2.2.2.2.2.2.2) a4.2))]) (fun a4=>[SlRes 188 a4.1.2.1 a4.2.1.1 a4.2.1.2,SlRes 84 a4.1.2.2.1 a4.2.2.1.1 a4.2.2.1.2,SlRes 85 a4.1.2.2.2.1 a4.2.2.2.1.1 a4.2.2.2.1.2,SlRes 191 a4.1.2.2.2.2.2.2.1 a4.2.2.2.2.1.1 a4.2.2.2.2.1.2,SlRes 195 a4.1.2.2.2.2.2.2.2.1 a4.2.2.2.2.2.1.1 a4.2.2.2.2.2.1.2,SlRes 3 a4.1.2.2.2.2.2.2.2.2.2 a4.2.2.2.2.2.2.1 a4.2.2.2.2.2.2.2]) ?_ (fun a4 bi=>?_)
  ·refine qb (lp (AC × AC × AC × AC × AC × AC) be (fun a5 a6=>[(27,vi a5.1),(26,vi x1.N),(8,vi a5.2.1),(4,.p 2 0),(6,.p 3 0)]) (fun a5 a6=>[(57,(eOffice x0 b0)),(87,(eAct x1)),(57,[.slice none 0 0,.slice none 0 0,.slice none 0 0,.int .i64 0,.int .i64 0,.slice none 0 0,.slice none 0 0,.int .i64 0,.slice none 0 0]),(57,(eOffice (Office.mk (Case.mk (Book.mk a5.2.2.1) (Store.mk a5.2.2.2.1) (Series.mk a5.2.2.2.2.1) (Member.mk a5.2.2.2.2.2.1 a5.2.2.2.2.2.2.1 a5.2.2.2.2.2.2.2.1 a5.2.2.2.2.2.2.2.2.1)) a5.2.2.2.2.2.2.2.2.2.1 a5.2.2.2.2.2.2.2.2.2.2) a6))]) (fun a5 a6=>[SlRes 188 a5.2.2.1 a6.1.1 a6.1.2,SlRes 84 a5.2.2.2.1 a6.2.1.1 a6.2.1.2,SlRes 85 a5.2.2.2.2.1 a6.2.2.1.1 a6.2.2.1.2,SlRes 191 a5.2.2.2.2.2.2.2.1 a6.2.2.2.1.1 a6.2.2.2.1.2,SlRes 195 a5.2.2.2.2.2.2.2.2.1 a6.2.2.2.2.1.1 a6.2.2.2.2.1.2,SlRes 3 a5.2.2.2.2.2.2.2.2.2.2 a6.2.2.2.2.2.1 a6.2.2.2.2.2.2]) ((a7.1.1,a7.1.2),(a7.2.1.1,a7.2.1.2),(a7.2.2.1.1,a7.2.2.1.2),(a7.2.2.2.1.1,a7.2.2.2.1.2),(a7.2.2.2.2.1.1,a7.2.2.2.2.1.2),(a7.2.2.2.2.2.1,a7.2.2.2.2.2.2)) [27,26,8,4,6] [0,0,0,0,0,0] 4 (fun a5 a6 c3 bj bk=>?_))
   refine qs (qr (oN 1 [(28,vb (decide (a5.1 < x1.N)))] [27,26,8,4,6] ?_))
   refine oe (nt (qs (cC bj (fun bl=>?_) (fun bm=>?_))))
   ·refine qk (nt (qs (qb (qs (qr (oN 1 [(30,.v (vOffice (Office.mk (Case.mk (Book.mk a5.2.2.1) (Store.mk a5.2.2.2.1) (Series.mk a5.2.2.2.2.1) (Member.mk a5.2.2.2.2.2.1 a5.2.2.2.2.2.2.1 a5.2.2.2.2.2.2.2.1 a5.2.2.2.2.2.2.2.2.1)) a5.2.2.2.2.2.2.2.2.2.1 a5.2.2.2.2.2.2.2.2.2.2) a6))] [27,26,8,4,6] ?_))))))
    obtain ⟨af,bo,bp⟩:=bS bl
    refine k1 (fun _ w hs=>c_impl_PayMonth (b0:=a6) bo (hs.view 0 rfl) (hs.view 1 rfl) (hs.view 2 rfl) (hs.view 3 rfl) (hs.view 4 rfl) (hs.view 5 rfl)) (fun a8=>?_)
    refine oB 8 [(10,vi af.2.1),(9,.p 4 0)] [27,26,8,4,6] [(57,(eOffice x0 b0)),(87,(eAct x1)),(57,[.slice none 0 0,.slice none 0 0,.slice none 0 0,.int .i64 0,.int .i64 0,.slice none 0 0,.slice none 0 0,.int .i64 0,.slice none 0 0]),(57,(eOffice (Office.mk (Case.mk (Book.mk a5.2.2.1) (Store.mk a5.2.2.2.1) (Series.mk a5.2.2.2.2.1) (Member.mk a5.2.2.2.2.2.1 a5.2.2.2.2.2.2.1 a5.2.2.2.2.2.2.2.1 a5.2.2.2.2.2.2.2.2.1)) a5.2.2.2.2.2.2.2.2.2.1 a5.2.2.2.2.2.2.2.2.2.2) a6)),(57,(eOffice af.1 a8))] ?_
    refine oe (nt (qs (qr (oB 2 [] [10,27,26,8,4,6] [(57,(eOffice x0 b0)),(87,(eAct x1)),(57,[.slice none 0 0,.slice none 0 0,.slice none 0 0,.int .i64 0,.int .i64 0,.slice none 0 0,.slice none 0 0,.int .i64 0,.slice none 0 0]),(57,(eOffice af.1 a8)),(57,(eOffice af.1 a8))] ?_))))
    refine oe (nt (qr (oN 4 [(8,vi (w64 (a5.2.1 + af.2.1)))] [27,26,4,6] ?_)))
    refine oe (bn (nt (qr (oN 2 [(27,vi (w64 (a5.1 + 1)))] [8,26,4,6] ?_))))
    exact oe (ct bp ((a8.1.1,a8.1.2),(a8.2.1.1,a8.2.1.2),(a8.2.2.1.1,a8.2.2.1.2),(a8.2.2.2.1.1,a8.2.2.2.1.2),(a8.2.2.2.2.1.1,a8.2.2.2.2.1.2),(a8.2.2.2.2.2.1,a8.2.2.2.2.2.2)) [27,26,8,4,6] [0,0,0,0,0,0] 4)
   refine qx (nx (nx (bh ?_)))
   have bq:=leafB bk bm ag
   exact mp ((a5.2.1,a5.2.2.1,a5.2.2.2.1,a5.2.2.2.2.1,a5.2.2.2.2.2.1,a5.2.2.2.2.2.2.1,a5.2.2.2.2.2.2.2.1,a5.2.2.2.2.2.2.2.2.1,a5.2.2.2.2.2.2.2.2.2.1,a5.2.2.2.2.2.2.2.2.2.2),((a6.1.1,a6.1.2),(a6.2.1.1,a6.2.1.2),(a6.2.2.1.1,a6.2.2.1.2),(a6.2.2.2.1.1,a6.2.2.2.1.2),(a6.2.2.2.2.1.1,a6.2.2.2.2.1.2),(a6.2.2.2.2.2.1,a6.2.2.2.2.2.2))) bq [8,4,6] [0,0,0,0,0,0] 4
  have bs:=(congrFun bg _).symm.trans bi
  refine nt (qs (qr (oB 4 [(5,vi a4.1.1)] [4] [(57,(eOffice x0 b0)),(87,(eAct x1)),(57,(eOffice (Office.mk (Case.mk (Book.mk a4.1.2.1) (Store.mk a4.1.2.2.1) (Series.mk a4.1.2.2.2.1) (Member.mk a4.1.2.2.2.2.1 a4.1.2.2.2.2.2.1 a4.1.2.2.2.2.2.2.1 a4.1.2.2.2.2.2.2.2.1)) a4.1.2.2.2.2.2.2.2.2.1 a4.1.2.2.2.2.2.2.2.2.2) a4.2)),(57,(eOffice (Office.mk (Case.mk (Book.mk a4.1.2.1) (Store.mk a4.1.2.2.1) (Series.mk a4.1.2.2.2.1) (Member.mk a4.1.2.2.2.2.1 a4.1.2.2.2.2.2.1 a4.1.2.2.2.2.2.2.1 a4.1.2.2.2.2.2.2.2.1)) a4.1.2.2.2.2.2.2.2.2.1 a4.1.2.2.2.2.2.2.2.2.2) a4.2))] ?_)))
  refine oe (nt (qe (nr (br (nr (rt [vOffice (Office.mk (Case.mk (Book.mk a4.1.2.1) (Store.mk a4.1.2.2.1) (Series.mk a4.1.2.2.2.1) (Member.mk a4.1.2.2.2.2.1 a4.1.2.2.2.2.2.1 a4.1.2.2.2.2.2.2.1 a4.1.2.2.2.2.2.2.2.1)) a4.1.2.2.2.2.2.2.2.2.1 a4.1.2.2.2.2.2.2.2.2.2) a4.2,.int .i64 a4.1.1] (fun _ w hs=>?_)))))))
  rw [← sI bs]
  exact ⟨(a4.2.1,a4.2.2.1,a4.2.2.2.1,a4.2.2.2.2.1,a4.2.2.2.2.2.1,a4.2.2.2.2.2.2),rfl,hs.kept.toBelow,(hs.takeR (is:=[0,0,0,0,0,0]) rfl).fresh⟩
 have bu:=(congrFun az _).symm.trans b5
 refine bn (nt (qs (qs (qr (oN 1 [(60,vb a3.1.1)] [4,6] ?_)))))
 refine oe (nt (cC bu (fun bv=>?_) (fun bw=>?_)))
 ·refine qs (qr (oB 3 [(5,vi 1)] [4] [(57,(eOffice x0 b0)),(87,(eAct x1)),(57,(eOffice (Office.mk (Case.mk (Book.mk a3.1.2.1) (Store.mk a3.1.2.2.1) (Series.mk a3.1.2.2.2.1) (Member.mk a3.1.2.2.2.2.1 a3.1.2.2.2.2.2.1 a3.1.2.2.2.2.2.2.1 a3.1.2.2.2.2.2.2.2.1)) a3.1.2.2.2.2.2.2.2.2.1 a3.1.2.2.2.2.2.2.2.2.2) a3.2)),(57,(eOffice (Office.mk (Case.mk (Book.mk a3.1.2.1) (Store.mk a3.1.2.2.1) (Series.mk a3.1.2.2.2.1) (Member.mk a3.1.2.2.2.2.1 a3.1.2.2.2.2.2.1 a3.1.2.2.2.2.2.2.1 a3.1.2.2.2.2.2.2.2.1)) a3.1.2.2.2.2.2.2.2.2.1 a3.1.2.2.2.2.2.2.2.2.2) a3.2))] ?_))
  refine oe (nt (qe (nr (rt [vOffice (Office.mk (Case.mk (Book.mk a3.1.2.1) (Store.mk a3.1.2.2.1) (Series.mk a3.1.2.2.2.1) (Member.mk a3.1.2.2.2.2.1 a3.1.2.2.2.2.2.1 a3.1.2.2.2.2.2.2.1 a3.1.2.2.2.2.2.2.2.1)) a3.1.2.2.2.2.2.2.2.2.1 a3.1.2.2.2.2.2.2.2.2.2) a3.2,.int .i64 1] (fun _ w hs=>?_)))))
  rw [← sI bv]
  exact ⟨(a3.2.1,a3.2.2.1,a3.2.2.2.1,a3.2.2.2.2.1,a3.2.2.2.2.2.1,a3.2.2.2.2.2.2),rfl,hs.kept.toBelow,(hs.takeR (is:=[0,0,0,0,0,0]) rfl).fresh⟩
 refine qk (nt (qs (qr (oB 3 [(5,vi 0)] [4] [(57,(eOffice x0 b0)),(87,(eAct x1)),(57,(eOffice (Office.mk (Case.mk (Book.mk a3.1.2.1) (Store.mk a3.1.2.2.1) (Series.mk a3.1.2.2.2.1) (Member.mk a3.1.2.2.2.2.1 a3.1.2.2.2.2.2.1 a3.1.2.2.2.2.2.2.1 a3.1.2.2.2.2.2.2.2.1)) a3.1.2.2.2.2.2.2.2.2.1 a3.1.2.2.2.2.2.2.2.2.2) a3.2)),(57,(eOffice (Office.mk (Case.mk (Book.mk a3.1.2.1) (Store.mk a3.1.2.2.1) (Series.mk a3.1.2.2.2.1) (Member.mk a3.1.2.2.2.2.1 a3.1.2.2.2.2.2.1 a3.1.2.2.2.2.2.2.1 a3.1.2.2.2.2.2.2.2.1)) a3.1.2.2.2.2.2.2.2.2.1 a3.1.2.2.2.2.2.2.2.2.2) a3.2))] ?_))))
 refine oe (nt (qe (rt [vOffice (Office.mk (Case.mk (Book.mk a3.1.2.1) (Store.mk a3.1.2.2.1) (Series.mk a3.1.2.2.2.1) (Member.mk a3.1.2.2.2.2.1 a3.1.2.2.2.2.2.1 a3.1.2.2.2.2.2.2.1 a3.1.2.2.2.2.2.2.2.1)) a3.1.2.2.2.2.2.2.2.2.1 a3.1.2.2.2.2.2.2.2.2.2) a3.2,.int .i64 0] (fun _ w hs=>?_))))
 rw [← sI bw]
 exact ⟨(a3.2.1,a3.2.2.1,a3.2.2.2.1,a3.2.2.2.2.1,a3.2.2.2.2.2.1,a3.2.2.2.2.2.2),rfl,hs.kept.toBelow,(hs.takeR (is:=[0,0,0,0,0,0]) rfl).fresh⟩
theorem c_impl_RunActs {W : World} {x0 : Case} {b0 : AC × AC × AC × AC × AC} {x1 : Int} {x2 : List Act} {a2_0 : Option Addr} {c2_0 : Nat} {r : Office × (List Int)} (h : impl_RunActs x0 x1 x2 = some r) (hv0_0 : SlView W x0.Book.Rules b0.1.1 b0.1.2) (hv0_1 : SlView W x0.Store.Facts b0.2.1.1 b0.2.1.2) (hv0_2 : SlView W x0.Series.Points b0.2.2.1.1 b0.2.2.1.2) (hv0_3 : SlView W x0.Member.Spells b0.2.2.2.1.1 b0.2.2.2.1.2) (hv0_4 : SlView W x0.Member.Events b0.2.2.2.2.1 b0.2.2.2.2.2) (hv2_0 : SlView W x2 a2_0 c2_0) :
  Gives Tryz.prog 18 #[vCase x0 b0,.int .i64 x1,.slice a2_0 x2.length c2_0] W (fun y : (AC × AC × AC × AC × AC × AC) × AC=>.tuple #[vOffice r.1 y.1,.slice y.2.1 r.2.length y.2.2]) (fun y=>(rOffice r.1 y.1 ++ [SlRes 3 r.2 y.2.1 y.2.2])):=by
 unfold impl_RunActs at h
 refine en Tryz.func18 Tryz.ntmps18 ?_
 refine qs (qr (oB 3 [(6,.p 1 0),(3,.p 0 0)] [1,2] [(54,(eCase x0 b0)),(57,[.slice none 0 0,.slice none 0 0,.slice none 0 0,.int .i64 0,.int .i64 0,.slice none 0 0,.slice none 0 0,.int .i64 0,.slice none 0 0])] ?_))
 refine oe (nt (qs (qr (oN 2 [(17,vi x1),(16,.v (vCase x0 b0))] [6,2] ?_))))
 obtain ⟨a9,ah,ai⟩:=bS h
 refine k1 (fun _ w hs=>c_impl_OfficeNew (b0:=b0) ah (hv0_0.k hs) (hv0_1.k hs) (hv0_2.k hs) (hv0_3.k hs) (hv0_4.k hs)) (fun a7=>?_)
 refine oB 6 [(9,vb a9.2),(8,.p 2 0)] [6,2] [(54,(eCase x0 b0)),(57,[.slice none 0 0,.slice none 0 0,.slice none 0 0,.int .i64 0,.int .i64 0,.slice none 0 0,.slice none 0 0,.int .i64 0,.slice none 0 0]),(57,(eOffice a9.1 a7))] ?_
 refine oe (nt (qs (qs ?_)))
 obtain ⟨aj,ak,al⟩:=bS ai
 refine JC_cut (τ:=Unit) (fun _=>[(2,vs a2_0 x2 c2_0),(6,.p 1 0),(8,.p 2 0),(27,vb aj)]) (fun _=>[(54,(eCase x0 b0)),(57,[.slice none 0 0,.slice none 0 0,.slice none 0 0,.int .i64 0,.int .i64 0,.slice none 0 0,.slice none 0 0,.int .i64 0,.slice none 0 0]),(57,(eOffice a9.1 a7))]) (fun _=>(rOffice a9.1 a7)) ?_ (fun _=>?_)
 ·refine qr (oN 3 [(23,vb (!a9.2))] [8,6,2] ?_)
  refine oS 23 ak (fun am=>?_) (fun an=>?_)
  ·refine oN 4 [(27,vb true)] [8,6,2] ?_
   refine oe ?_
   obtain rfl:=sI am
   exact mt () [2,6,8,27] [0,0,0,0,0,0] 3
  refine oN 4 [(27,vb (decide ((x2.length : Int) > 60)))] [8,6,2] ?_
  refine oe ?_
  obtain rfl:=sI an
  exact mt () [2,6,8,27] [0,0,0,0,0,0] 3
 refine nt (cC al (fun ao=>?_) (fun ap=>?_))
 ·refine qs (qr (oN 3 [(7,.v (.slice none 0 0))] [6] ?_))
  refine oe (nt (qe (nr (JE_addnil 188 (List.nil (α:=Rule)) rfl ?_))))
  refine JE_addnil 84 (List.nil (α:=Fact)) rfl ?_
  refine JE_addnil 85 (List.nil (α:=Point)) rfl ?_
  refine JE_addnil 191 (List.nil (α:=Spell)) rfl ?_
  refine JE_addnil 195 (List.nil (α:=Event)) rfl ?_
  refine JE_addnil 3 (List.nil (α:=Int)) rfl ?_
  refine JE_addnil 3 (List.nil (α:=Int)) rfl ?_
  refine rt [.agg #[.slice none 0 0,.slice none 0 0,.slice none 0 0,.int .i64 0,.int .i64 0,.slice none 0 0,.slice none 0 0,.int .i64 0,.slice none 0 0],.slice none 0 0] (fun _ w hs=>?_)
  rw [← sI ao]
  exact ⟨(((none,0),(none,0),(none,0),(none,0),(none,0),(none,0)),(none,0)),rfl,hs.kept.toBelow,(hs.takeR (is:=[6,5,4,3,2,1,0]) rfl).fresh⟩
 refine qk (nt (qs (qr (ob [] (rOffice a9.1 a7) 3 0 [] ([] : List Int) (own_flat (by kernel_rfl)) (fun ac=>?_)))))
 refine oN 1 [(10,sv ac ([] : List Int))] [2,6,8] ?_
 refine oe (nt (qs (qs (qr (oN 3 [(32,vi 0),(31,vi (x2.length : Int)),(30,vs a2_0 x2 c2_0)] [10,6,8] ?_)))))
 refine oe (nt ?_)
 obtain ⟨bc,aq,ae⟩:=bS ap
 obtain ⟨ar,au,ae⟩:=brkS ae
 refine JC_cutP (τ:=((List Int) × Int × Int × Int × Int × Int × (List Rule) × (List Fact) × (List Point) × Int × Int × (List Spell) × (List Event) × Int × (List Int)) × (AC × AC × AC × AC × AC × AC × AC)) (fun y=>ar y.1 = some r) (fun a3=>[(10,sv a3.2.1 a3.1.1),(6,.p 1 0),(8,.p 2 0)]) (fun a3=>[(54,(eCase (Case.mk x0.Book x0.Store x0.Series (Member.mk a3.1.2.1 a3.1.2.2.1 x0.Member.Spells x0.Member.Events)) b0)),(57,[.slice none 0 0,.slice none 0 0,.slice none 0 0,.int .i64 a3.1.2.2.2.1,.int .i64 a3.1.2.2.2.2.1,.slice none 0 0,.slice none 0 0,.int .i64 a3.1.2.2.2.2.2.1,.slice none 0 0]),(57,(eOffice (Office.mk (Case.mk (Book.mk a3.1.2.2.2.2.2.2.1) (Store.mk a3.1.2.2.2.2.2.2.2.1) (Series.mk a3.1.2.2.2.2.2.2.2.2.1) (Member.mk a3.1.2.2.2.2.2.2.2.2.2.1 a3.1.2.2.2.2.2.2.2.2.2.2.1 a3.1.2.2.2.2.2.2.2.2.2.2.2.1 a3.1.2.2.2.2.2.2.2.2.2.2.2.2.1)) a3.1.2.2.2.2.2.2.2.2.2.2.2.2.2.1 a3.1.2.2.2.2.2.2.2.2.2.2.2.2.2.2) a3.2.2))]) (fun a3=>[SlRes 3 a3.1.1 a3.2.1.1 a3.2.1.2,SlRes 188 a3.1.2.2.2.2.2.2.1 a3.2.2.1.1 a3.2.2.1.2,SlRes 84 a3.1.2.2.2.2.2.2.2.1 a3.2.2.2.1.1 a3.2.2.2.1.2,SlRes 85 a3.1.2.2.2.2.2.2.2.2.1 a3.2.2.2.2.1.1 a3.2.2.2.2.1.2,SlRes 191 a3.1.2.2.2.2.2.2.2.2.2.2.2.1 a3.2.2.2.2.2.1.1 a3.2.2.2.2.2.1.2,SlRes 195 a3.1.2.2.2.2.2.2.2.2.2.2.2.2.1 a3.2.2.2.2.2.2.1.1 a3.2.2.2.2.2.2.1.2,SlRes 3 a3.1.2.2.2.2.2.2.2.2.2.2.2.2.2.2 a3.2.2.2.2.2.2.2.1 a3.2.2.2.2.2.2.2.2]) ?_ (fun a3 av=>?_)
 ·refine qb (lp (AC × AC × AC × AC × AC × AC × AC) aq (fun a4 a5=>[(32,vi a4.1),(31,vi (x2.length : Int)),(30,vs a2_0 x2 c2_0),(10,sv a5.1 a4.2.1),(6,.p 1 0),(8,.p 2 0)]) (fun a4 a5=>[(54,(eCase x0 b0)),(57,[.slice none 0 0,.slice none 0 0,.slice none 0 0,.int .i64 0,.int .i64 0,.slice none 0 0,.slice none 0 0,.int .i64 0,.slice none 0 0]),(57,(eOffice (Office.mk (Case.mk (Book.mk a4.2.2.1) (Store.mk a4.2.2.2.1) (Series.mk a4.2.2.2.2.1) (Member.mk a4.2.2.2.2.2.1 a4.2.2.2.2.2.2.1 a4.2.2.2.2.2.2.2.1 a4.2.2.2.2.2.2.2.2.1)) a4.2.2.2.2.2.2.2.2.2.1 a4.2.2.2.2.2.2.2.2.2.2) a5.2))]) (fun a4 a5=>[SlRes 3 a4.2.1 a5.1.1 a5.1.2,SlRes 188 a4.2.2.1 a5.2.1.1 a5.2.1.2,SlRes 84 a4.2.2.2.1 a5.2.2.1.1 a5.2.2.1.2,SlRes 85 a4.2.2.2.2.1 a5.2.2.2.1.1 a5.2.2.2.1.2,SlRes 191 a4.2.2.2.2.2.2.2.1 a5.2.2.2.2.1.1 a5.2.2.2.2.1.2,SlRes 195 a4.2.2.2.2.2.2.2.2.1 a5.2.2.2.2.2.1.1 a5.2.2.2.2.2.1.2,SlRes 3 a4.2.2.2.2.2.2.2.2.2.2 a5.2.2.2.2.2.2.1 a5.2.2.2.2.2.2.2]) ((ac.1,ac.2),(a7.1.1,a7.1.2),(a7.2.1.1,a7.2.1.2),(a7.2.2.1.1,a7.2.2.1.2),(a7.2.2.2.1.1,a7.2.2.2.1.2),(a7.2.2.2.2.1.1,a7.2.2.2.2.1.2),(a7.2.2.2.2.2.1,a7.2.2.2.2.2.2)) [32,31,30,10,6,8] [0,0,0,0,0,0,0] 3 (fun a4 a5 bd aw ax=>?_))
  refine qs (qr (oN 1 [(33,vb (decide (a4.1 < (x2.length : Int))))] [32,31,30,10,6,8] ?_))
  refine oe (nt (qs (cC aw (fun ay=>?_) (fun az=>?_))))
  ·refine qk (nt (qs (qb (qs (qr ?_)))))
   obtain ⟨aa,ag,b4⟩:=bS ay
   refine oi 10 (fun _ w hs=>(hv2_0.k hs)) ag ?_
   refine ol 87 0 (vAct aa) (fun _ w hs=>(hv2_0.k hs).flatq ag) ?_
   refine oB 2 [(12,.p 3 0)] [32,31,30,10,6,8] [(54,(eCase x0 b0)),(57,[.slice none 0 0,.slice none 0 0,.slice none 0 0,.int .i64 0,.int .i64 0,.slice none 0 0,.slice none 0 0,.int .i64 0,.slice none 0 0]),(57,(eOffice (Office.mk (Case.mk (Book.mk a4.2.2.1) (Store.mk a4.2.2.2.1) (Series.mk a4.2.2.2.2.1) (Member.mk a4.2.2.2.2.2.1 a4.2.2.2.2.2.2.1 a4.2.2.2.2.2.2.2.1 a4.2.2.2.2.2.2.2.2.1)) a4.2.2.2.2.2.2.2.2.2.1 a4.2.2.2.2.2.2.2.2.2.2) a5.2)),(87,(eAct aa))] ?_
   refine oe (nt (qs (qr (oN 2 [(38,.v (vAct aa)),(37,.v (vOffice (Office.mk (Case.mk (Book.mk a4.2.2.1) (Store.mk a4.2.2.2.1) (Series.mk a4.2.2.2.2.1) (Member.mk a4.2.2.2.2.2.1 a4.2.2.2.2.2.2.1 a4.2.2.2.2.2.2.2.1 a4.2.2.2.2.2.2.2.2.1)) a4.2.2.2.2.2.2.2.2.2.1 a4.2.2.2.2.2.2.2.2.2.2) a5.2))] [32,31,30,10,6,8] ?_))))
   obtain ⟨a8,b5,b6⟩:=bS b4
   refine k1 (fun _ w hs=>c_impl_DoAct (b0:=a5.2) b5 (hs.view 1 rfl) (hs.view 2 rfl) (hs.view 3 rfl) (hs.view 4 rfl) (hs.view 5 rfl) (hs.view 6 rfl)) (fun a6=>?_)
   refine oB 6 [(14,vi a8.2),(13,.p 4 0)] [32,31,30,10,6,8] [(54,(eCase x0 b0)),(57,[.slice none 0 0,.slice none 0 0,.slice none 0 0,.int .i64 0,.int .i64 0,.slice none 0 0,.slice none 0 0,.int .i64 0,.slice none 0 0]),(57,(eOffice (Office.mk (Case.mk (Book.mk a4.2.2.1) (Store.mk a4.2.2.2.1) (Series.mk a4.2.2.2.2.1) (Member.mk a4.2.2.2.2.2.1 a4.2.2.2.2.2.2.1 a4.2.2.2.2.2.2.2.1 a4.2.2.2.2.2.2.2.2.1)) a4.2.2.2.2.2.2.2.2.2.1 a4.2.2.2.2.2.2.2.2.2.2) a5.2)),(87,(eAct aa)),(57,(eOffice a8.1 a6))] ?_
   refine oe (nt (qs (qr (oB 2 [] [14,32,31,30,10,6,8] [(54,(eCase x0 b0)),(57,[.slice none 0 0,.slice none 0 0,.slice none 0 0,.int .i64 0,.int .i64 0,.slice none 0 0,.slice none 0 0,.int .i64 0,.slice none 0 0]),(57,(eOffice a8.1 a6)),(87,(eAct aa)),(57,(eOffice a8.1 a6))] ?_))))
   refine oe (nt (qr (oN 2 [(44,vi a8.2),(43,sv a5.1 a4.2.1)] [32,31,30,6,8] ?_)))
   refine ob [] (rOffice a8.1 a6 ++ [SlRes 3 a4.2.1 a5.1.1 a5.1.2,SlRes 188 a4.2.2.1 a5.2.1.1 a5.2.1.2,SlRes 84 a4.2.2.2.1 a5.2.2.1.1 a5.2.2.1.2,SlRes 85 a4.2.2.2.2.1 a5.2.2.2.1.1 a5.2.2.2.1.2,SlRes 191 a4.2.2.2.2.2.2.2.1 a5.2.2.2.2.1.1 a5.2.2.2.2.1.2,SlRes 195 a4.2.2.2.2.2.2.2.2.1 a5.2.2.2.2.2.1.1 a5.2.2.2.2.2.1.2,SlRes 3 a4.2.2.2.2.2.2.2.2.2.2 a5.2.2.2.2.2.2.1 a5.2.2.2.2.2.2.2]) 3 1 [.int .i64 a8.2] ([a8.2] : List Int) (own_flat (by kernel_rfl)) (fun ab=>?_)
   refine JO_res (R':=([SlRes 3 a4.2.1 a5.1.1 a5.1.2,SlRes 3 ([a8.2] : List Int) ab.1 ab.2] ++ (rOffice a8.1 a6 ++ [SlRes 188 a4.2.2.1 a5.2.1.1 a5.2.1.2,SlRes 84 a4.2.2.2.1 a5.2.2.1.1 a5.2.2.1.2,SlRes 85 a4.2.2.2.2.1 a5.2.2.2.1.1 a5.2.2.2.1.2,SlRes 191 a4.2.2.2.2.2.2.2.1 a5.2.2.2.2.1.1 a5.2.2.2.2.1.2,SlRes 195 a4.2.2.2.2.2.2.2.2.1 a5.2.2.2.2.2.1.1 a5.2.2.2.2.2.1.2,SlRes 3 a4.2.2.2.2.2.2.2.2.2.2 a5.2.2.2.2.2.2.1 a5.2.2.2.2.2.2.2]))) [7,0,0,0,0,0,0,0,0,0,0,0,0,0] (by kernel_rfl) ?_
   obtain ⟨b7,b8,b9⟩:=bS b6
   refine oa 55 ab.2 Tryz.t3 (.int .i64 0) (fun _ w hs=>⟨ab.2,(hs.view 1 rfl)⟩) b8 (fun af=>?_)
   refine oN 1 [(10,sv af b7)] [32,31,30,6,8] ?_
   refine oe (bn (nt (qr (oN 2 [(32,vi (w64 (a4.1 + 1)))] [10,31,30,6,8] ?_))))
   exact oe (ct b9 ((af.1,af.2),(a6.1.1,a6.1.2),(a6.2.1.1,a6.2.1.2),(a6.2.2.1.1,a6.2.2.1.2),(a6.2.2.2.1.1,a6.2.2.2.1.2),(a6.2.2.2.2.1.1,a6.2.2.2.2.1.2),(a6.2.2.2.2.2.1,a6.2.2.2.2.2.2)) [32,31,30,10,6,8] [0,1,1,1,1,1,1] 3)
  refine qx (nx (nx (bh ?_)))
  have ba:=leafB ax az ae
  exact mp ((a4.2.1,x0.Member.Birth,x0.Member.Joined,0,0,0,a4.2.2.1,a4.2.2.2.1,a4.2.2.2.2.1,a4.2.2.2.2.2.1,a4.2.2.2.2.2.2.1,a4.2.2.2.2.2.2.2.1,a4.2.2.2.2.2.2.2.2.1,a4.2.2.2.2.2.2.2.2.2.1,a4.2.2.2.2.2.2.2.2.2.2),((a5.1.1,a5.1.2),(a5.2.1.1,a5.2.1.2),(a5.2.2.1.1,a5.2.2.1.2),(a5.2.2.2.1.1,a5.2.2.2.1.2),(a5.2.2.2.2.1.1,a5.2.2.2.2.1.2),(a5.2.2.2.2.2.1.1,a5.2.2.2.2.2.1.2),(a5.2.2.2.2.2.2.1,a5.2.2.2.2.2.2.2))) ba [10,6,8] [0,0,0,0,0,0,0] 3
 have bb:=(congrFun au _).symm.trans av
 refine nt (qs (qr (oB 4 [(7,sv a3.2.1 a3.1.1)] [6] [(54,(eCase (Case.mk x0.Book x0.Store x0.Series (Member.mk a3.1.2.1 a3.1.2.2.1 x0.Member.Spells x0.Member.Events)) b0)),(57,(eOffice (Office.mk (Case.mk (Book.mk a3.1.2.2.2.2.2.2.1) (Store.mk a3.1.2.2.2.2.2.2.2.1) (Series.mk a3.1.2.2.2.2.2.2.2.2.1) (Member.mk a3.1.2.2.2.2.2.2.2.2.2.1 a3.1.2.2.2.2.2.2.2.2.2.2.1 a3.1.2.2.2.2.2.2.2.2.2.2.2.1 a3.1.2.2.2.2.2.2.2.2.2.2.2.2.1)) a3.1.2.2.2.2.2.2.2.2.2.2.2.2.2.1 a3.1.2.2.2.2.2.2.2.2.2.2.2.2.2.2) a3.2.2)),(57,(eOffice (Office.mk (Case.mk (Book.mk a3.1.2.2.2.2.2.2.1) (Store.mk a3.1.2.2.2.2.2.2.2.1) (Series.mk a3.1.2.2.2.2.2.2.2.2.1) (Member.mk a3.1.2.2.2.2.2.2.2.2.2.1 a3.1.2.2.2.2.2.2.2.2.2.2.1 a3.1.2.2.2.2.2.2.2.2.2.2.2.1 a3.1.2.2.2.2.2.2.2.2.2.2.2.2.1)) a3.1.2.2.2.2.2.2.2.2.2.2.2.2.2.1 a3.1.2.2.2.2.2.2.2.2.2.2.2.2.2.2) a3.2.2))] ?_)))
 refine oe (nt (qe (rt [vOffice (Office.mk (Case.mk (Book.mk a3.1.2.2.2.2.2.2.1) (Store.mk a3.1.2.2.2.2.2.2.2.1) (Series.mk a3.1.2.2.2.2.2.2.2.2.1) (Member.mk a3.1.2.2.2.2.2.2.2.2.2.1 a3.1.2.2.2.2.2.2.2.2.2.2.1 a3.1.2.2.2.2.2.2.2.2.2.2.2.1 a3.1.2.2.2.2.2.2.2.2.2.2.2.2.1)) a3.1.2.2.2.2.2.2.2.2.2.2.2.2.2.1 a3.1.2.2.2.2.2.2.2.2.2.2.2.2.2.2) a3.2.2,.slice a3.2.1.1 a3.1.1.length a3.2.1.2] (fun _ w hs=>?_))))
 rw [← sI bb]
 exact ⟨((a3.2.2.1,a3.2.2.2.1,a3.2.2.2.2.1,a3.2.2.2.2.2.1,a3.2.2.2.2.2.2.1,a3.2.2.2.2.2.2.2),a3.2.1),rfl,hs.kept.toBelow,(hs.takeR (is:=[1,1,1,1,1,1,0]) rfl).fresh⟩
theorem c_laws_eqFrac {W : World} {x0 : Frac} {x1 : Frac} {r : Bool} (h : laws_eqFrac x0 x1 = some r)  :
  Gives0 Tryz.prog 244 #[vFrac x0,vFrac x1] W (.bool r):=by
 unfold laws_eqFrac at h
 refine en Tryz.func244 Tryz.ntmps244 ?_
 refine qs (qr (oB 3 [(3,.p 1 0),(2,.p 0 0)] [] [(216,(eFrac x0)),(216,(eFrac x1))] ?_))
 refine oe (nt (qs (qs (qr (oN 5 [(9,vb (x0.Num != x1.Num))] [3,2] ?_)))))
 refine oe (nt (cC h (fun a3=>?_) (fun a4=>?_)))
 ·refine qs (qr (oN 1 [(4,vb false)] [] ?_))
  refine oe (nt (qe (nr ?_)))
  obtain rfl:=sI a3
  exact re [.bool false]
 refine qk (nt (qs (qs (qr (oN 5 [(14,vb (x0.Den != x1.Den))] [] ?_)))))
 refine oe (nt (cC a4 (fun a5=>?_) (fun a6=>?_)))
 ·refine qs (qr (oN 1 [(4,vb false)] [] ?_))
  refine oe (nt (qe (nr ?_)))
  obtain rfl:=sI a5
  exact re [.bool false]
 refine qk (nt (qs (qr (oN 1 [(4,vb true)] [] ?_))))
 refine oe (nt (qe ?_))
 obtain rfl:=sI a6
 exact re [.bool true]
theorem c_laws_eqNode {W : World} {x0 : Node} {x1 : Node} {r : Bool} (h : laws_eqNode x0 x1 = some r)  :
  Gives0 Tryz.prog 233 #[vNode x0,vNode x1] W (.bool r):=by
 unfold laws_eqNode at h
 refine en Tryz.func233 Tryz.ntmps233 ?_
 refine qs (qr (oB 3 [(3,.p 1 0),(2,.p 0 0)] [] [(233,(eNode x0)),(233,(eNode x1))] ?_))
 refine oe (nt (qs (qs (qr (oN 5 [(9,vb (x0.Kind != x1.Kind))] [3,2] ?_)))))
 refine oe (nt (cC h (fun a3=>?_) (fun a4=>?_)))
 ·refine qs (qr (oN 1 [(4,vb false)] [] ?_))
  refine oe (nt (qe (nr ?_)))
  obtain rfl:=sI a3
  exact re [.bool false]
 refine qk (nt (qs (qs (qr (oN 5 [(14,vb (x0.A != x1.A))] [3,2] ?_)))))
 refine oe (nt (cC a4 (fun a5=>?_) (fun a6=>?_)))
 ·refine qs (qr (oN 1 [(4,vb false)] [] ?_))
  refine oe (nt (qe (nr ?_)))
  obtain rfl:=sI a5
  exact re [.bool false]
 refine qk (nt (qs (qs (qr (oN 5 [(19,vb (x0.B != x1.B))] [3,2] ?_)))))
 refine oe (nt (cC a6 (fun a7=>?_) (fun a8=>?_)))
 ·refine qs (qr (oN 1 [(4,vb false)] [] ?_))
  refine oe (nt (qe (nr ?_)))
  obtain rfl:=sI a7
  exact re [.bool false]
 refine qk (nt (qs (qs (qr (oN 5 [(24,vb (x0.C != x1.C))] [3,2] ?_)))))
 refine oe (nt (cC a8 (fun a9=>?_) (fun aa=>?_)))
 ·refine qs (qr (oN 1 [(4,vb false)] [] ?_))
  refine oe (nt (qe (nr ?_)))
  obtain rfl:=sI a9
  exact re [.bool false]
 refine qk (nt (qs (qs (qr (oN 4 [(28,.v (vFrac x1.Value)),(26,.v (vFrac x0.Value))] [] ?_)))))
 obtain ⟨ab,ac,ae⟩:=bS aa
 refine k0 (fun _ w hs=>c_laws_eqFrac ac) ?_
 refine oN 1 [(30,vb (!ab))] [] ?_
 refine oe (nt (cC ae (fun af=>?_) (fun ag=>?_)))
 ·refine qs (qr (oN 1 [(4,vb false)] [] ?_))
  refine oe (nt (qe (nr ?_)))
  obtain rfl:=sI af
  exact re [.bool false]
 refine qk (nt (qs (qr (oN 1 [(4,vb true)] [] ?_))))
 refine oe (nt (qe ?_))
 obtain rfl:=sI ag
 exact re [.bool true]
theorem c_laws_eqNodeS {W : World} {x0 : List Node} {a0_0 : Option Addr} {c0_0 : Nat} {x1 : List Node} {a1_0 : Option Addr} {c1_0 : Nat} {r : Bool} (h : laws_eqNodeS x0 x1 = some r) (hv0_0 : SlView W x0 a0_0 c0_0) (hv1_0 : SlView W x1 a1_0 c1_0) :
  Gives0 Tryz.prog 206 #[.slice a0_0 x0.length c0_0,.slice a1_0 x1.length c1_0] W (.bool r):=by
 unfold laws_eqNodeS at h
 refine en Tryz.func206 Tryz.ntmps206 ?_
 refine qs (qr (oN 1 [] [0,1] ?_))
 refine oe (nt (qs (qs (qr (oN 5 [(10,vb ((x0.length : Int) != (x1.length : Int)))] [0,1] ?_)))))
 refine oe (nt (cC h (fun aa=>?_) (fun ab=>?_)))
 ·refine qs (qr (oN 1 [(4,vb false)] [] ?_))
  refine oe (nt (qe (nr ?_)))
  obtain rfl:=sI aa
  exact re [.bool false]
 refine qk (nt (qs (qs (qr (oN 1 [(5,vi 0)] [0,1] ?_)))))
 refine oe (nt ?_)
 obtain ⟨ay,ac,a4⟩:=bS ab
 obtain ⟨ae,af,a4⟩:=brkS a4
 refine JC_cutP (τ:=(Unit) × (Unit)) (fun y=>ae y.1 = some r) (fun a5=>[]) (fun a5=>[]) (fun a5=>[]) ?_ (fun a5 ag=>?_)
 ·refine qb (lp Unit ac (fun a3 a6=>[(5,vi a3),(0,vs a0_0 x0 c0_0),(1,vs a1_0 x1 c1_0)]) (fun a3 a6=>[]) (fun a3 a6=>[]) () [5,0,1] [] 0 (fun a3 a6 az ah a7=>?_))
  refine qs (qs (qr (oN 4 [(14,vb (decide (a3 < (x0.length : Int))))] [5,0,1] ?_)))
  refine oe (nt (cC ah (fun ai=>?_) (fun aj=>?_)))
  ·refine qk (nt (qs (qb (qs (JC_quiet (by kernel_rfl) (by kernel_rfl) ?_)))))
   refine qN 2 [(18,vi a3),(17,vs a0_0 x0 c0_0)] [5,0,1] ?_
   obtain ⟨ak,a8,al⟩:=bS ai
   refine qi 6 (fun _ w hs=>(hv0_0.k hs)) a8 ?_
   refine ql 233 0 (vNode ak) (fun _ w hs=>(hv0_0.k hs).flatq a8) ?_
   refine qN 2 [(22,vi a3),(21,vs a1_0 x1 c1_0)] [20,5,0,1] ?_
   obtain ⟨am,a9,an⟩:=bS al
   refine qi 6 (fun _ w hs=>(hv1_0.k hs)) a9 ?_
   refine ql 233 0 (vNode am) (fun _ w hs=>(hv1_0.k hs).flatq a9) ?_
   obtain ⟨ao,ap,aq⟩:=bS an
   refine q0 (fun _ w hs=>c_laws_eqNode ap) ?_
   refine qN 1 [(26,vb (!ao))] [5,0,1] ?_
   refine qz (nt (cC aq (fun ar=>?_) (fun au=>?_)))
   ·refine qs (qr (oN 1 [(4,vb false)] [] ?_))
    refine oe (nt (qe (br (nr (nr ?_)))))
    have av:=leafR a7 ar a4
    refine br (nr (nr ?_))
    obtain rfl:=sI av
    exact re [.bool false]
   refine qk (bn (nt (qr (oN 3 [(5,vi (w64 (a3 + 1)))] [0,1] ?_))))
   exact oe (ct au () [5,0,1] [] 0)
  refine qx (nx (nx (bh ?_)))
  have aw:=leafB a7 aj a4
  exact mp ((),()) aw [] [] 0
 have ax:=(congrFun af _).symm.trans ag
 refine nt (qs (qr (oN 1 [(4,vb true)] [] ?_)))
 refine oe (nt (qe ?_))
 obtain rfl:=sI ax
 exact re [.bool true]
theorem c_laws_eqRule {W : World} {x0 : Rule} {a0_0 : Option Addr} {c0_0 : Nat} {x1 : Rule} {a1_0 : Option Addr} {c1_0 : Nat} {r : Bool} (h : laws_eqRule x0 x1 = some r) (hv0_0 : SlView W x0.Nodes a0_0 c0_0) (hv1_0 : SlView W x1.Nodes a1_0 c1_0) :
  Gives0 Tryz.prog 155 #[vRule x0 (a0_0,c0_0),vRule x1 (a1_0,c1_0)] W (.bool r):=by
 unfold laws_eqRule at h
 refine en Tryz.func155 Tryz.ntmps155 ?_
 refine qs (qr (oB 3 [(3,.p 1 0),(2,.p 0 0)] [] [(188,(eRule x0 (a0_0,c0_0))),(188,(eRule x1 (a1_0,c1_0)))] ?_))
 refine oe (nt (qs (qs (qr (oN 5 [(9,vb (x0.Name != x1.Name))] [3,2] ?_)))))
 refine oe (nt (cC h (fun a3=>?_) (fun a4=>?_)))
 ·refine qs (qr (oN 1 [(4,vb false)] [] ?_))
  refine oe (nt (qe (nr ?_)))
  obtain rfl:=sI a3
  exact re [.bool false]
 refine qk (nt (qs (qs (qr (oN 5 [(14,vb (x0.From != x1.From))] [3,2] ?_)))))
 refine oe (nt (cC a4 (fun a5=>?_) (fun a6=>?_)))
 ·refine qs (qr (oN 1 [(4,vb false)] [] ?_))
  refine oe (nt (qe (nr ?_)))
  obtain rfl:=sI a5
  exact re [.bool false]
 refine qk (nt (qs (qs (qr (oN 5 [(19,vb (x0.To != x1.To))] [3,2] ?_)))))
 refine oe (nt (cC a6 (fun a7=>?_) (fun a8=>?_)))
 ·refine qs (qr (oN 1 [(4,vb false)] [] ?_))
  refine oe (nt (qe (nr ?_)))
  obtain rfl:=sI a7
  exact re [.bool false]
 refine qk (nt (qs (qs (qr (oN 5 [(24,vb (x0.Joined != x1.Joined))] [3,2] ?_)))))
 refine oe (nt (cC a8 (fun a9=>?_) (fun aa=>?_)))
 ·refine qs (qr (oN 1 [(4,vb false)] [] ?_))
  refine oe (nt (qe (nr ?_)))
  obtain rfl:=sI a9
  exact re [.bool false]
 refine qk (nt (qs (qs (qr (oN 5 [(29,vb (x0.Rank != x1.Rank))] [3,2] ?_)))))
 refine oe (nt (cC aa (fun ab=>?_) (fun ac=>?_)))
 ·refine qs (qr (oN 1 [(4,vb false)] [] ?_))
  refine oe (nt (qe (nr ?_)))
  obtain rfl:=sI ab
  exact re [.bool false]
 refine qk (nt (qs (qs (qr (oN 5 [(34,vb (x0.Mode != x1.Mode))] [3,2] ?_)))))
 refine oe (nt (cC ac (fun ae=>?_) (fun af=>?_)))
 ·refine qs (qr (oN 1 [(4,vb false)] [] ?_))
  refine oe (nt (qe (nr ?_)))
  obtain rfl:=sI ae
  exact re [.bool false]
 refine qk (nt (qs (qs (qr (oN 4 [(38,vs a1_0 x1.Nodes c1_0),(36,vs a0_0 x0.Nodes c0_0)] [] ?_)))))
 obtain ⟨ag,ah,ai⟩:=bS af
 refine k0 (fun _ w hs=>c_laws_eqNodeS ah (hv0_0.k hs) (hv1_0.k hs)) ?_
 refine oN 1 [(40,vb (!ag))] [] ?_
 refine oe (nt (cC ai (fun aj=>?_) (fun ak=>?_)))
 ·refine qs (qr (oN 1 [(4,vb false)] [] ?_))
  refine oe (nt (qe (nr ?_)))
  obtain rfl:=sI aj
  exact re [.bool false]
 refine qk (nt (qs (qr (oN 1 [(4,vb true)] [] ?_))))
 refine oe (nt (qe ?_))
 obtain rfl:=sI ak
 exact re [.bool true]
theorem c_laws_eqRuleS {W : World} {x0 : List Rule} {a0_0 : Option Addr} {c0_0 : Nat} {x1 : List Rule} {a1_0 : Option Addr} {c1_0 : Nat} {r : Bool} (h : laws_eqRuleS x0 x1 = some r) (hv0_0 : SlView W x0 a0_0 c0_0) (hv1_0 : SlView W x1 a1_0 c1_0) :
  Gives0 Tryz.prog 107 #[.slice a0_0 x0.length c0_0,.slice a1_0 x1.length c1_0] W (.bool r):=by
 unfold laws_eqRuleS at h
 refine en Tryz.func107 Tryz.ntmps107 ?_
 refine qs (qr (oN 1 [] [0,1] ?_))
 refine oe (nt (qs (qs (qr (oN 5 [(10,vb ((x0.length : Int) != (x1.length : Int)))] [0,1] ?_)))))
 refine oe (nt (cC h (fun aa=>?_) (fun ab=>?_)))
 ·refine qs (qr (oN 1 [(4,vb false)] [] ?_))
  refine oe (nt (qe (nr ?_)))
  obtain rfl:=sI aa
  exact re [.bool false]
 refine qk (nt (qs (qs (qr (oN 1 [(5,vi 0)] [0,1] ?_)))))
 refine oe (nt ?_)
 obtain ⟨ba,ac,a4⟩:=bS ab
 obtain ⟨ae,af,a4⟩:=brkS a4
 refine JC_cutP (τ:=(Unit) × (Unit)) (fun y=>ae y.1 = some r) (fun a5=>[]) (fun a5=>[]) (fun a5=>[]) ?_ (fun a5 ag=>?_)
 ·refine qb (lp Unit ac (fun a3 a6=>[(5,vi a3),(0,vs a0_0 x0 c0_0),(1,vs a1_0 x1 c1_0)]) (fun a3 a6=>[]) (fun a3 a6=>[]) () [5,0,1] [] 0 (fun a3 a6 bb ah a9=>?_))
  refine qs (qs (qr (oN 4 [(14,vb (decide (a3 < (x0.length : Int))))] [5,0,1] ?_)))
  refine oe (nt (cC ah (fun ai=>?_) (fun aj=>?_)))
  ·refine qk (nt (qs (qb (qs (JC_quiet (by kernel_rfl) (by kernel_rfl) ?_)))))
   refine qN 2 [(18,vi a3),(17,vs a0_0 x0 c0_0)] [5,0,1] ?_
   obtain ⟨ak,a7,al⟩:=bS ai
   refine qi 7 (fun _ w hs=>(hv0_0.k hs)) a7 ?_
   obtain ⟨_,⟨am,an,rfl,ao⟩,ap⟩:=SlView.at hv0_0 (idx_some a7).2.2
   refine ql 188 0 (vRule ak (am,an)) (fun _ w hs=>⟨(hv0_0.k hs).ne (idx_some a7).2.2,ap.kept hs.kept⟩) ?_
   refine qN 2 [(22,vi a3),(21,vs a1_0 x1 c1_0)] [20,5,0,1] ?_
   obtain ⟨aq,a8,ar⟩:=bS al
   refine qi 7 (fun _ w hs=>(hv1_0.k hs)) a8 ?_
   obtain ⟨_,⟨au,av,rfl,aw⟩,ax⟩:=SlView.at hv1_0 (idx_some a8).2.2
   refine ql 188 0 (vRule aq (au,av)) (fun _ w hs=>⟨(hv1_0.k hs).ne (idx_some a8).2.2,ax.kept hs.kept⟩) ?_
   obtain ⟨ay,az,b4⟩:=bS ar
   refine q0 (fun _ w hs=>c_laws_eqRule az (ao.k hs) (aw.k hs)) ?_
   refine qN 1 [(26,vb (!ay))] [5,0,1] ?_
   refine qz (nt (cC b4 (fun b5=>?_) (fun b6=>?_)))
   ·refine qs (qr (oN 1 [(4,vb false)] [] ?_))
    refine oe (nt (qe (br (nr (nr ?_)))))
    have b7:=leafR a9 b5 a4
    refine br (nr (nr ?_))
    obtain rfl:=sI b7
    exact re [.bool false]
   refine qk (bn (nt (qr (oN 3 [(5,vi (w64 (a3 + 1)))] [0,1] ?_))))
   exact oe (ct b6 () [5,0,1] [] 0)
  refine qx (nx (nx (bh ?_)))
  have b8:=leafB a9 aj a4
  exact mp ((),()) b8 [] [] 0
 have b9:=(congrFun af _).symm.trans ag
 refine nt (qs (qr (oN 1 [(4,vb true)] [] ?_)))
 refine oe (nt (qe ?_))
 obtain rfl:=sI b9
 exact re [.bool true]
theorem c_laws_eqBook {W : World} {x0 : Book} {a0_0 : Option Addr} {c0_0 : Nat} {x1 : Book} {a1_0 : Option Addr} {c1_0 : Nat} {r : Bool} (h : laws_eqBook x0 x1 = some r) (hv0_0 : SlView W x0.Rules a0_0 c0_0) (hv1_0 : SlView W x1.Rules a1_0 c1_0) :
  Gives0 Tryz.prog 63 #[vBook x0 (a0_0,c0_0),vBook x1 (a1_0,c1_0)] W (.bool r):=by
 unfold laws_eqBook at h
 refine en Tryz.func63 Tryz.ntmps63 ?_
 refine qs (qr (oB 3 [(3,.p 1 0),(2,.p 0 0)] [] [(42,(eBook x0 (a0_0,c0_0))),(42,(eBook x1 (a1_0,c1_0)))] ?_))
 refine oe (nt (qs (qs (qr (oN 4 [(8,vs a1_0 x1.Rules c1_0),(6,vs a0_0 x0.Rules c0_0)] [] ?_)))))
 obtain ⟨a3,a4,a5⟩:=bS h
 refine k0 (fun _ w hs=>c_laws_eqRuleS a4 (hv0_0.k hs) (hv1_0.k hs)) ?_
 refine oN 1 [(10,vb (!a3))] [] ?_
 refine oe (nt (cC a5 (fun a6=>?_) (fun a7=>?_)))
 ·refine qs (qr (oN 1 [(4,vb false)] [] ?_))
  refine oe (nt (qe (nr ?_)))
  obtain rfl:=sI a6
  exact re [.bool false]
 refine qk (nt (qs (qr (oN 1 [(4,vb true)] [] ?_))))
 refine oe (nt (qe ?_))
 obtain rfl:=sI a7
 exact re [.bool true]
theorem c_laws_eqFact {W : World} {x0 : Fact} {x1 : Fact} {r : Bool} (h : laws_eqFact x0 x1 = some r)  :
  Gives0 Tryz.prog 112 #[vFact x0,vFact x1] W (.bool r):=by
 unfold laws_eqFact at h
 refine en Tryz.func112 Tryz.ntmps112 ?_
 refine qs (qr (oB 3 [(3,.p 1 0),(2,.p 0 0)] [] [(84,(eFact x0)),(84,(eFact x1))] ?_))
 refine oe (nt (qs (qs (qr (oN 5 [(9,vb (x0.Key != x1.Key))] [3,2] ?_)))))
 refine oe (nt (cC h (fun a3=>?_) (fun a4=>?_)))
 ·refine qs (qr (oN 1 [(4,vb false)] [] ?_))
  refine oe (nt (qe (nr ?_)))
  obtain rfl:=sI a3
  exact re [.bool false]
 refine qk (nt (qs (qs (qr (oN 5 [(14,vb (x0.From != x1.From))] [3,2] ?_)))))
 refine oe (nt (cC a4 (fun a5=>?_) (fun a6=>?_)))
 ·refine qs (qr (oN 1 [(4,vb false)] [] ?_))
  refine oe (nt (qe (nr ?_)))
  obtain rfl:=sI a5
  exact re [.bool false]
 refine qk (nt (qs (qs (qr (oN 5 [(19,vb (x0.To != x1.To))] [3,2] ?_)))))
 refine oe (nt (cC a6 (fun a7=>?_) (fun a8=>?_)))
 ·refine qs (qr (oN 1 [(4,vb false)] [] ?_))
  refine oe (nt (qe (nr ?_)))
  obtain rfl:=sI a7
  exact re [.bool false]
 refine qk (nt (qs (qs (qr (oN 5 [(24,vb (x0.Known != x1.Known))] [3,2] ?_)))))
 refine oe (nt (cC a8 (fun a9=>?_) (fun aa=>?_)))
 ·refine qs (qr (oN 1 [(4,vb false)] [] ?_))
  refine oe (nt (qe (nr ?_)))
  obtain rfl:=sI a9
  exact re [.bool false]
 refine qk (nt (qs (qs (qr (oN 5 [(29,vb (x0.Value != x1.Value))] [] ?_)))))
 refine oe (nt (cC aa (fun ab=>?_) (fun ac=>?_)))
 ·refine qs (qr (oN 1 [(4,vb false)] [] ?_))
  refine oe (nt (qe (nr ?_)))
  obtain rfl:=sI ab
  exact re [.bool false]
 refine qk (nt (qs (qr (oN 1 [(4,vb true)] [] ?_))))
 refine oe (nt (qe ?_))
 obtain rfl:=sI ac
 exact re [.bool true]
theorem c_laws_eqFactS {W : World} {x0 : List Fact} {a0_0 : Option Addr} {c0_0 : Nat} {x1 : List Fact} {a1_0 : Option Addr} {c1_0 : Nat} {r : Bool} (h : laws_eqFactS x0 x1 = some r) (hv0_0 : SlView W x0 a0_0 c0_0) (hv1_0 : SlView W x1 a1_0 c1_0) :
  Gives0 Tryz.prog 108 #[.slice a0_0 x0.length c0_0,.slice a1_0 x1.length c1_0] W (.bool r):=by
 unfold laws_eqFactS at h
 refine en Tryz.func108 Tryz.ntmps108 ?_
 refine qs (qr (oN 1 [] [0,1] ?_))
 refine oe (nt (qs (qs (qr (oN 5 [(10,vb ((x0.length : Int) != (x1.length : Int)))] [0,1] ?_)))))
 refine oe (nt (cC h (fun aa=>?_) (fun ab=>?_)))
 ·refine qs (qr (oN 1 [(4,vb false)] [] ?_))
  refine oe (nt (qe (nr ?_)))
  obtain rfl:=sI aa
  exact re [.bool false]
 refine qk (nt (qs (qs (qr (oN 1 [(5,vi 0)] [0,1] ?_)))))
 refine oe (nt ?_)
 obtain ⟨ay,ac,a4⟩:=bS ab
 obtain ⟨ae,af,a4⟩:=brkS a4
 refine JC_cutP (τ:=(Unit) × (Unit)) (fun y=>ae y.1 = some r) (fun a5=>[]) (fun a5=>[]) (fun a5=>[]) ?_ (fun a5 ag=>?_)
 ·refine qb (lp Unit ac (fun a3 a6=>[(5,vi a3),(0,vs a0_0 x0 c0_0),(1,vs a1_0 x1 c1_0)]) (fun a3 a6=>[]) (fun a3 a6=>[]) () [5,0,1] [] 0 (fun a3 a6 az ah a7=>?_))
  refine qs (qs (qr (oN 4 [(14,vb (decide (a3 < (x0.length : Int))))] [5,0,1] ?_)))
  refine oe (nt (cC ah (fun ai=>?_) (fun aj=>?_)))
  ·refine qk (nt (qs (qb (qs (JC_quiet (by kernel_rfl) (by kernel_rfl) ?_)))))
   refine qN 2 [(18,vi a3),(17,vs a0_0 x0 c0_0)] [5,0,1] ?_
   obtain ⟨ak,a8,al⟩:=bS ai
   refine qi 5 (fun _ w hs=>(hv0_0.k hs)) a8 ?_
   refine ql 84 0 (vFact ak) (fun _ w hs=>(hv0_0.k hs).flatq a8) ?_
   refine qN 2 [(22,vi a3),(21,vs a1_0 x1 c1_0)] [20,5,0,1] ?_
   obtain ⟨am,a9,an⟩:=bS al
   refine qi 5 (fun _ w hs=>(hv1_0.k hs)) a9 ?_
   refine ql 84 0 (vFact am) (fun _ w hs=>(hv1_0.k hs).flatq a9) ?_
   obtain ⟨ao,ap,aq⟩:=bS an
   refine q0 (fun _ w hs=>c_laws_eqFact ap) ?_
   refine qN 1 [(26,vb (!ao))] [5,0,1] ?_
   refine qz (nt (cC aq (fun ar=>?_) (fun au=>?_)))
   ·refine qs (qr (oN 1 [(4,vb false)] [] ?_))
    refine oe (nt (qe (br (nr (nr ?_)))))
    have av:=leafR a7 ar a4
    refine br (nr (nr ?_))
    obtain rfl:=sI av
    exact re [.bool false]
   refine qk (bn (nt (qr (oN 3 [(5,vi (w64 (a3 + 1)))] [0,1] ?_))))
   exact oe (ct au () [5,0,1] [] 0)
  refine qx (nx (nx (bh ?_)))
  have aw:=leafB a7 aj a4
  exact mp ((),()) aw [] [] 0
 have ax:=(congrFun af _).symm.trans ag
 refine nt (qs (qr (oN 1 [(4,vb true)] [] ?_)))
 refine oe (nt (qe ?_))
 obtain rfl:=sI ax
 exact re [.bool true]
theorem c_laws_eqStore {W : World} {x0 : Store} {a0_0 : Option Addr} {c0_0 : Nat} {x1 : Store} {a1_0 : Option Addr} {c1_0 : Nat} {r : Bool} (h : laws_eqStore x0 x1 = some r) (hv0_0 : SlView W x0.Facts a0_0 c0_0) (hv1_0 : SlView W x1.Facts a1_0 c1_0) :
  Gives0 Tryz.prog 64 #[vStore x0 (a0_0,c0_0),vStore x1 (a1_0,c1_0)] W (.bool r):=by
 unfold laws_eqStore at h
 refine en Tryz.func64 Tryz.ntmps64 ?_
 refine qs (qr (oB 3 [(3,.p 1 0),(2,.p 0 0)] [] [(45,(eStore x0 (a0_0,c0_0))),(45,(eStore x1 (a1_0,c1_0)))] ?_))
 refine oe (nt (qs (qs (qr (oN 4 [(8,vs a1_0 x1.Facts c1_0),(6,vs a0_0 x0.Facts c0_0)] [] ?_)))))
 obtain ⟨a3,a4,a5⟩:=bS h
 refine k0 (fun _ w hs=>c_laws_eqFactS a4 (hv0_0.k hs) (hv1_0.k hs)) ?_
 refine oN 1 [(10,vb (!a3))] [] ?_
 refine oe (nt (cC a5 (fun a6=>?_) (fun a7=>?_)))
 ·refine qs (qr (oN 1 [(4,vb false)] [] ?_))
  refine oe (nt (qe (nr ?_)))
  obtain rfl:=sI a6
  exact re [.bool false]
 refine qk (nt (qs (qr (oN 1 [(4,vb true)] [] ?_))))
 refine oe (nt (qe ?_))
 obtain rfl:=sI a7
 exact re [.bool true]
theorem c_laws_eqPoint {W : World} {x0 : Point} {x1 : Point} {r : Bool} (h : laws_eqPoint x0 x1 = some r)  :
  Gives0 Tryz.prog 113 #[vPoint x0,vPoint x1] W (.bool r):=by
 unfold laws_eqPoint at h
 refine en Tryz.func113 Tryz.ntmps113 ?_
 refine qs (qr (oB 3 [(3,.p 1 0),(2,.p 0 0)] [] [(85,(ePoint x0)),(85,(ePoint x1))] ?_))
 refine oe (nt (qs (qs (qr (oN 5 [(9,vb (x0.Month != x1.Month))] [3,2] ?_)))))
 refine oe (nt (cC h (fun a3=>?_) (fun a4=>?_)))
 ·refine qs (qr (oN 1 [(4,vb false)] [] ?_))
  refine oe (nt (qe (nr ?_)))
  obtain rfl:=sI a3
  exact re [.bool false]
 refine qk (nt (qs (qs (qr (oN 5 [(14,vb (x0.Known != x1.Known))] [3,2] ?_)))))
 refine oe (nt (cC a4 (fun a5=>?_) (fun a6=>?_)))
 ·refine qs (qr (oN 1 [(4,vb false)] [] ?_))
  refine oe (nt (qe (nr ?_)))
  obtain rfl:=sI a5
  exact re [.bool false]
 refine qk (nt (qs (qs (qr (oN 5 [(19,vb (x0.Value != x1.Value))] [] ?_)))))
 refine oe (nt (cC a6 (fun a7=>?_) (fun a8=>?_)))
 ·refine qs (qr (oN 1 [(4,vb false)] [] ?_))
  refine oe (nt (qe (nr ?_)))
  obtain rfl:=sI a7
  exact re [.bool false]
 refine qk (nt (qs (qr (oN 1 [(4,vb true)] [] ?_))))
 refine oe (nt (qe ?_))
 obtain rfl:=sI a8
 exact re [.bool true]
theorem c_laws_eqPointS {W : World} {x0 : List Point} {a0_0 : Option Addr} {c0_0 : Nat} {x1 : List Point} {a1_0 : Option Addr} {c1_0 : Nat} {r : Bool} (h : laws_eqPointS x0 x1 = some r) (hv0_0 : SlView W x0 a0_0 c0_0) (hv1_0 : SlView W x1 a1_0 c1_0) :
  Gives0 Tryz.prog 109 #[.slice a0_0 x0.length c0_0,.slice a1_0 x1.length c1_0] W (.bool r):=by
 unfold laws_eqPointS at h
 refine en Tryz.func109 Tryz.ntmps109 ?_
 refine qs (qr (oN 1 [] [0,1] ?_))
 refine oe (nt (qs (qs (qr (oN 5 [(10,vb ((x0.length : Int) != (x1.length : Int)))] [0,1] ?_)))))
 refine oe (nt (cC h (fun aa=>?_) (fun ab=>?_)))
 ·refine qs (qr (oN 1 [(4,vb false)] [] ?_))
  refine oe (nt (qe (nr ?_)))
  obtain rfl:=sI aa
  exact re [.bool false]
 refine qk (nt (qs (qs (qr (oN 1 [(5,vi 0)] [0,1] ?_)))))
 refine oe (nt ?_)
 obtain ⟨ay,ac,a4⟩:=bS ab
 obtain ⟨ae,af,a4⟩:=brkS a4
 refine JC_cutP (τ:=(Unit) × (Unit)) (fun y=>ae y.1 = some r) (fun a5=>[]) (fun a5=>[]) (fun a5=>[]) ?_ (fun a5 ag=>?_)
 ·refine qb (lp Unit ac (fun a3 a6=>[(5,vi a3),(0,vs a0_0 x0 c0_0),(1,vs a1_0 x1 c1_0)]) (fun a3 a6=>[]) (fun a3 a6=>[]) () [5,0,1] [] 0 (fun a3 a6 az ah a7=>?_))
  refine qs (qs (qr (oN 4 [(14,vb (decide (a3 < (x0.length : Int))))] [5,0,1] ?_)))
  refine oe (nt (cC ah (fun ai=>?_) (fun aj=>?_)))
  ·refine qk (nt (qs (qb (qs (JC_quiet (by kernel_rfl) (by kernel_rfl) ?_)))))
   refine qN 2 [(18,vi a3),(17,vs a0_0 x0 c0_0)] [5,0,1] ?_
   obtain ⟨ak,a8,al⟩:=bS ai
   refine qi 3 (fun _ w hs=>(hv0_0.k hs)) a8 ?_
   refine ql 85 0 (vPoint ak) (fun _ w hs=>(hv0_0.k hs).flatq a8) ?_
   refine qN 2 [(22,vi a3),(21,vs a1_0 x1 c1_0)] [20,5,0,1] ?_
   obtain ⟨am,a9,an⟩:=bS al
   refine qi 3 (fun _ w hs=>(hv1_0.k hs)) a9 ?_
   refine ql 85 0 (vPoint am) (fun _ w hs=>(hv1_0.k hs).flatq a9) ?_
   obtain ⟨ao,ap,aq⟩:=bS an
   refine q0 (fun _ w hs=>c_laws_eqPoint ap) ?_
   refine qN 1 [(26,vb (!ao))] [5,0,1] ?_
   refine qz (nt (cC aq (fun ar=>?_) (fun au=>?_)))
   ·refine qs (qr (oN 1 [(4,vb false)] [] ?_))
    refine oe (nt (qe (br (nr (nr ?_)))))
    have av:=leafR a7 ar a4
    refine br (nr (nr ?_))
    obtain rfl:=sI av
    exact re [.bool false]
   refine qk (bn (nt (qr (oN 3 [(5,vi (w64 (a3 + 1)))] [0,1] ?_))))
   exact oe (ct au () [5,0,1] [] 0)
  refine qx (nx (nx (bh ?_)))
  have aw:=leafB a7 aj a4
  exact mp ((),()) aw [] [] 0
 have ax:=(congrFun af _).symm.trans ag
 refine nt (qs (qr (oN 1 [(4,vb true)] [] ?_)))
 refine oe (nt (qe ?_))
 obtain rfl:=sI ax
 exact re [.bool true]
theorem c_laws_eqSeries {W : World} {x0 : Series} {a0_0 : Option Addr} {c0_0 : Nat} {x1 : Series} {a1_0 : Option Addr} {c1_0 : Nat} {r : Bool} (h : laws_eqSeries x0 x1 = some r) (hv0_0 : SlView W x0.Points a0_0 c0_0) (hv1_0 : SlView W x1.Points a1_0 c1_0) :
  Gives0 Tryz.prog 65 #[vSeries x0 (a0_0,c0_0),vSeries x1 (a1_0,c1_0)] W (.bool r):=by
 unfold laws_eqSeries at h
 refine en Tryz.func65 Tryz.ntmps65 ?_
 refine qs (qr (oB 3 [(3,.p 1 0),(2,.p 0 0)] [] [(48,(eSeries x0 (a0_0,c0_0))),(48,(eSeries x1 (a1_0,c1_0)))] ?_))
 refine oe (nt (qs (qs (qr (oN 4 [(8,vs a1_0 x1.Points c1_0),(6,vs a0_0 x0.Points c0_0)] [] ?_)))))
 obtain ⟨a3,a4,a5⟩:=bS h
 refine k0 (fun _ w hs=>c_laws_eqPointS a4 (hv0_0.k hs) (hv1_0.k hs)) ?_
 refine oN 1 [(10,vb (!a3))] [] ?_
 refine oe (nt (cC a5 (fun a6=>?_) (fun a7=>?_)))
 ·refine qs (qr (oN 1 [(4,vb false)] [] ?_))
  refine oe (nt (qe (nr ?_)))
  obtain rfl:=sI a6
  exact re [.bool false]
 refine qk (nt (qs (qr (oN 1 [(4,vb true)] [] ?_))))
 refine oe (nt (qe ?_))
 obtain rfl:=sI a7
 exact re [.bool true]
theorem c_laws_eqSpell {W : World} {x0 : Spell} {x1 : Spell} {r : Bool} (h : laws_eqSpell x0 x1 = some r)  :
  Gives0 Tryz.prog 156 #[vSpell x0,vSpell x1] W (.bool r):=by
 unfold laws_eqSpell at h
 refine en Tryz.func156 Tryz.ntmps156 ?_
 refine qs (qr (oB 3 [(3,.p 1 0),(2,.p 0 0)] [] [(191,(eSpell x0)),(191,(eSpell x1))] ?_))
 refine oe (nt (qs (qs (qr (oN 5 [(9,vb (x0.From != x1.From))] [3,2] ?_)))))
 refine oe (nt (cC h (fun a3=>?_) (fun a4=>?_)))
 ·refine qs (qr (oN 1 [(4,vb false)] [] ?_))
  refine oe (nt (qe (nr ?_)))
  obtain rfl:=sI a3
  exact re [.bool false]
 refine qk (nt (qs (qs (qr (oN 5 [(14,vb (x0.To != x1.To))] [3,2] ?_)))))
 refine oe (nt (cC a4 (fun a5=>?_) (fun a6=>?_)))
 ·refine qs (qr (oN 1 [(4,vb false)] [] ?_))
  refine oe (nt (qe (nr ?_)))
  obtain rfl:=sI a5
  exact re [.bool false]
 refine qk (nt (qs (qs (qr (oN 5 [(19,vb (x0.Percent != x1.Percent))] [3,2] ?_)))))
 refine oe (nt (cC a6 (fun a7=>?_) (fun a8=>?_)))
 ·refine qs (qr (oN 1 [(4,vb false)] [] ?_))
  refine oe (nt (qe (nr ?_)))
  obtain rfl:=sI a7
  exact re [.bool false]
 refine qk (nt (qs (qs (qr (oN 5 [(24,vb (!(x0.Leave == x1.Leave)))] [] ?_)))))
 refine oe (nt (cC a8 (fun a9=>?_) (fun aa=>?_)))
 ·refine qs (qr (oN 1 [(4,vb false)] [] ?_))
  refine oe (nt (qe (nr ?_)))
  obtain rfl:=sI a9
  exact re [.bool false]
 refine qk (nt (qs (qr (oN 1 [(4,vb true)] [] ?_))))
 refine oe (nt (qe ?_))
 obtain rfl:=sI aa
 exact re [.bool true]
theorem c_laws_eqSpellS {W : World} {x0 : List Spell} {a0_0 : Option Addr} {c0_0 : Nat} {x1 : List Spell} {a1_0 : Option Addr} {c1_0 : Nat} {r : Bool} (h : laws_eqSpellS x0 x1 = some r) (hv0_0 : SlView W x0 a0_0 c0_0) (hv1_0 : SlView W x1 a1_0 c1_0) :
  Gives0 Tryz.prog 110 #[.slice a0_0 x0.length c0_0,.slice a1_0 x1.length c1_0] W (.bool r):=by
 unfold laws_eqSpellS at h
 refine en Tryz.func110 Tryz.ntmps110 ?_
 refine qs (qr (oN 1 [] [0,1] ?_))
 refine oe (nt (qs (qs (qr (oN 5 [(10,vb ((x0.length : Int) != (x1.length : Int)))] [0,1] ?_)))))
 refine oe (nt (cC h (fun aa=>?_) (fun ab=>?_)))
 ·refine qs (qr (oN 1 [(4,vb false)] [] ?_))
  refine oe (nt (qe (nr ?_)))
  obtain rfl:=sI aa
  exact re [.bool false]
 refine qk (nt (qs (qs (qr (oN 1 [(5,vi 0)] [0,1] ?_)))))
 refine oe (nt ?_)
 obtain ⟨ay,ac,a4⟩:=bS ab
 obtain ⟨ae,af,a4⟩:=brkS a4
 refine JC_cutP (τ:=(Unit) × (Unit)) (fun y=>ae y.1 = some r) (fun a5=>[]) (fun a5=>[]) (fun a5=>[]) ?_ (fun a5 ag=>?_)
 ·refine qb (lp Unit ac (fun a3 a6=>[(5,vi a3),(0,vs a0_0 x0 c0_0),(1,vs a1_0 x1 c1_0)]) (fun a3 a6=>[]) (fun a3 a6=>[]) () [5,0,1] [] 0 (fun a3 a6 az ah a7=>?_))
  refine qs (qs (qr (oN 4 [(14,vb (decide (a3 < (x0.length : Int))))] [5,0,1] ?_)))
  refine oe (nt (cC ah (fun ai=>?_) (fun aj=>?_)))
  ·refine qk (nt (qs (qb (qs (JC_quiet (by kernel_rfl) (by kernel_rfl) ?_)))))
   refine qN 2 [(18,vi a3),(17,vs a0_0 x0 c0_0)] [5,0,1] ?_
   obtain ⟨ak,a8,al⟩:=bS ai
   refine qi 4 (fun _ w hs=>(hv0_0.k hs)) a8 ?_
   refine ql 191 0 (vSpell ak) (fun _ w hs=>(hv0_0.k hs).flatq a8) ?_
   refine qN 2 [(22,vi a3),(21,vs a1_0 x1 c1_0)] [20,5,0,1] ?_
   obtain ⟨am,a9,an⟩:=bS al
   refine qi 4 (fun _ w hs=>(hv1_0.k hs)) a9 ?_
   refine ql 191 0 (vSpell am) (fun _ w hs=>(hv1_0.k hs).flatq a9) ?_
   obtain ⟨ao,ap,aq⟩:=bS an
   refine q0 (fun _ w hs=>c_laws_eqSpell ap) ?_
   refine qN 1 [(26,vb (!ao))] [5,0,1] ?_
   refine qz (nt (cC aq (fun ar=>?_) (fun au=>?_)))
   ·refine qs (qr (oN 1 [(4,vb false)] [] ?_))
    refine oe (nt (qe (br (nr (nr ?_)))))
    have av:=leafR a7 ar a4
    refine br (nr (nr ?_))
    obtain rfl:=sI av
    exact re [.bool false]
   refine qk (bn (nt (qr (oN 3 [(5,vi (w64 (a3 + 1)))] [0,1] ?_))))
   exact oe (ct au () [5,0,1] [] 0)
  refine qx (nx (nx (bh ?_)))
  have aw:=leafB a7 aj a4
  exact mp ((),()) aw [] [] 0
 have ax:=(congrFun af _).symm.trans ag
 refine nt (qs (qr (oN 1 [(4,vb true)] [] ?_)))
 refine oe (nt (qe ?_))
 obtain rfl:=sI ax
 exact re [.bool true]
theorem c_laws_eqEvent {W : World} {x0 : Event} {x1 : Event} {r : Bool} (h : laws_eqEvent x0 x1 = some r)  :
  Gives0 Tryz.prog 157 #[vEvent x0,vEvent x1] W (.bool r):=by
 unfold laws_eqEvent at h
 refine en Tryz.func157 Tryz.ntmps157 ?_
 refine qs (qr (oB 3 [(3,.p 1 0),(2,.p 0 0)] [] [(195,(eEvent x0)),(195,(eEvent x1))] ?_))
 refine oe (nt (qs (qs (qr (oN 5 [(9,vb (x0.Kind != x1.Kind))] [3,2] ?_)))))
 refine oe (nt (cC h (fun a3=>?_) (fun a4=>?_)))
 ·refine qs (qr (oN 1 [(4,vb false)] [] ?_))
  refine oe (nt (qe (nr ?_)))
  obtain rfl:=sI a3
  exact re [.bool false]
 refine qk (nt (qs (qs (qr (oN 5 [(14,vb (x0.Month != x1.Month))] [] ?_)))))
 refine oe (nt (cC a4 (fun a5=>?_) (fun a6=>?_)))
 ·refine qs (qr (oN 1 [(4,vb false)] [] ?_))
  refine oe (nt (qe (nr ?_)))
  obtain rfl:=sI a5
  exact re [.bool false]
 refine qk (nt (qs (qr (oN 1 [(4,vb true)] [] ?_))))
 refine oe (nt (qe ?_))
 obtain rfl:=sI a6
 exact re [.bool true]
theorem c_laws_eqEventS {W : World} {x0 : List Event} {a0_0 : Option Addr} {c0_0 : Nat} {x1 : List Event} {a1_0 : Option Addr} {c1_0 : Nat} {r : Bool} (h : laws_eqEventS x0 x1 = some r) (hv0_0 : SlView W x0 a0_0 c0_0) (hv1_0 : SlView W x1 a1_0 c1_0) :
  Gives0 Tryz.prog 111 #[.slice a0_0 x0.length c0_0,.slice a1_0 x1.length c1_0] W (.bool r):=by
 unfold laws_eqEventS at h
 refine en Tryz.func111 Tryz.ntmps111 ?_
 refine qs (qr (oN 1 [] [0,1] ?_))
 refine oe (nt (qs (qs (qr (oN 5 [(10,vb ((x0.length : Int) != (x1.length : Int)))] [0,1] ?_)))))
 refine oe (nt (cC h (fun aa=>?_) (fun ab=>?_)))
 ·refine qs (qr (oN 1 [(4,vb false)] [] ?_))
  refine oe (nt (qe (nr ?_)))
  obtain rfl:=sI aa
  exact re [.bool false]
 refine qk (nt (qs (qs (qr (oN 1 [(5,vi 0)] [0,1] ?_)))))
 refine oe (nt ?_)
 obtain ⟨ay,ac,a4⟩:=bS ab
 obtain ⟨ae,af,a4⟩:=brkS a4
 refine JC_cutP (τ:=(Unit) × (Unit)) (fun y=>ae y.1 = some r) (fun a5=>[]) (fun a5=>[]) (fun a5=>[]) ?_ (fun a5 ag=>?_)
 ·refine qb (lp Unit ac (fun a3 a6=>[(5,vi a3),(0,vs a0_0 x0 c0_0),(1,vs a1_0 x1 c1_0)]) (fun a3 a6=>[]) (fun a3 a6=>[]) () [5,0,1] [] 0 (fun a3 a6 az ah a7=>?_))
  refine qs (qs (qr (oN 4 [(14,vb (decide (a3 < (x0.length : Int))))] [5,0,1] ?_)))
  refine oe (nt (cC ah (fun ai=>?_) (fun aj=>?_)))
  ·refine qk (nt (qs (qb (qs (JC_quiet (by kernel_rfl) (by kernel_rfl) ?_)))))
   refine qN 2 [(18,vi a3),(17,vs a0_0 x0 c0_0)] [5,0,1] ?_
   obtain ⟨ak,a8,al⟩:=bS ai
   refine qi 2 (fun _ w hs=>(hv0_0.k hs)) a8 ?_
   refine ql 195 0 (vEvent ak) (fun _ w hs=>(hv0_0.k hs).flatq a8) ?_
   refine qN 2 [(22,vi a3),(21,vs a1_0 x1 c1_0)] [20,5,0,1] ?_
   obtain ⟨am,a9,an⟩:=bS al
   refine qi 2 (fun _ w hs=>(hv1_0.k hs)) a9 ?_
   refine ql 195 0 (vEvent am) (fun _ w hs=>(hv1_0.k hs).flatq a9) ?_
   obtain ⟨ao,ap,aq⟩:=bS an
   refine q0 (fun _ w hs=>c_laws_eqEvent ap) ?_
   refine qN 1 [(26,vb (!ao))] [5,0,1] ?_
   refine qz (nt (cC aq (fun ar=>?_) (fun au=>?_)))
   ·refine qs (qr (oN 1 [(4,vb false)] [] ?_))
    refine oe (nt (qe (br (nr (nr ?_)))))
    have av:=leafR a7 ar a4
    refine br (nr (nr ?_))
    obtain rfl:=sI av
    exact re [.bool false]
   refine qk (bn (nt (qr (oN 3 [(5,vi (w64 (a3 + 1)))] [0,1] ?_))))
   exact oe (ct au () [5,0,1] [] 0)
  refine qx (nx (nx (bh ?_)))
  have aw:=leafB a7 aj a4
  exact mp ((),()) aw [] [] 0
 have ax:=(congrFun af _).symm.trans ag
 refine nt (qs (qr (oN 1 [(4,vb true)] [] ?_)))
 refine oe (nt (qe ?_))
 obtain rfl:=sI ax
 exact re [.bool true]
theorem c_laws_eqMember {W : World} {x0 : Member} {b0 : AC × AC} {x1 : Member} {b1 : AC × AC} {r : Bool} (h : laws_eqMember x0 x1 = some r) (hv0_0 : SlView W x0.Spells b0.1.1 b0.1.2) (hv0_1 : SlView W x0.Events b0.2.1 b0.2.2) (hv1_0 : SlView W x1.Spells b1.1.1 b1.1.2) (hv1_1 : SlView W x1.Events b1.2.1 b1.2.2) :
  Gives0 Tryz.prog 66 #[vMember x0 b0,vMember x1 b1] W (.bool r):=by
 unfold laws_eqMember at h
 refine en Tryz.func66 Tryz.ntmps66 ?_
 refine qs (qr (oB 3 [(3,.p 1 0),(2,.p 0 0)] [] [(52,(eMember x0 b0)),(52,(eMember x1 b1))] ?_))
 refine oe (nt (qs (qs (qr (oN 5 [(9,vb (x0.Birth != x1.Birth))] [3,2] ?_)))))
 refine oe (nt (cC h (fun a3=>?_) (fun a4=>?_)))
 ·refine qs (qr (oN 1 [(4,vb false)] [] ?_))
  refine oe (nt (qe (nr ?_)))
  obtain rfl:=sI a3
  exact re [.bool false]
 refine qk (nt (qs (qs (qr (oN 5 [(14,vb (x0.Joined != x1.Joined))] [3,2] ?_)))))
 refine oe (nt (cC a4 (fun a5=>?_) (fun a6=>?_)))
 ·refine qs (qr (oN 1 [(4,vb false)] [] ?_))
  refine oe (nt (qe (nr ?_)))
  obtain rfl:=sI a5
  exact re [.bool false]
 refine qk (nt (qs (qs (qr (oN 4 [(18,sv b1.1 x1.Spells),(16,sv b0.1 x0.Spells)] [3,2] ?_)))))
 obtain ⟨a7,a8,a9⟩:=bS a6
 refine k0 (fun _ w hs=>c_laws_eqSpellS a8 (hv0_0.k hs) (hv1_0.k hs)) ?_
 refine oN 1 [(20,vb (!a7))] [3,2] ?_
 refine oe (nt (cC a9 (fun aa=>?_) (fun ab=>?_)))
 ·refine qs (qr (oN 1 [(4,vb false)] [] ?_))
  refine oe (nt (qe (nr ?_)))
  obtain rfl:=sI aa
  exact re [.bool false]
 refine qk (nt (qs (qs (qr (oN 4 [(24,sv b1.2 x1.Events),(22,sv b0.2 x0.Events)] [] ?_)))))
 obtain ⟨ac,ae,af⟩:=bS ab
 refine k0 (fun _ w hs=>c_laws_eqEventS ae (hv0_1.k hs) (hv1_1.k hs)) ?_
 refine oN 1 [(26,vb (!ac))] [] ?_
 refine oe (nt (cC af (fun ag=>?_) (fun ah=>?_)))
 ·refine qs (qr (oN 1 [(4,vb false)] [] ?_))
  refine oe (nt (qe (nr ?_)))
  obtain rfl:=sI ag
  exact re [.bool false]
 refine qk (nt (qs (qr (oN 1 [(4,vb true)] [] ?_))))
 refine oe (nt (qe ?_))
 obtain rfl:=sI ah
 exact re [.bool true]
theorem c_laws_eqCase {W : World} {x0 : Case} {b0 : AC × AC × AC × AC × AC} {x1 : Case} {b1 : AC × AC × AC × AC × AC} {r : Bool} (h : laws_eqCase x0 x1 = some r) (hv0_0 : SlView W x0.Book.Rules b0.1.1 b0.1.2) (hv0_1 : SlView W x0.Store.Facts b0.2.1.1 b0.2.1.2) (hv0_2 : SlView W x0.Series.Points b0.2.2.1.1 b0.2.2.1.2) (hv0_3 : SlView W x0.Member.Spells b0.2.2.2.1.1 b0.2.2.2.1.2) (hv0_4 : SlView W x0.Member.Events b0.2.2.2.2.1 b0.2.2.2.2.2) (hv1_0 : SlView W x1.Book.Rules b1.1.1 b1.1.2) (hv1_1 : SlView W x1.Store.Facts b1.2.1.1 b1.2.1.2) (hv1_2 : SlView W x1.Series.Points b1.2.2.1.1 b1.2.2.1.2) (hv1_3 : SlView W x1.Member.Spells b1.2.2.2.1.1 b1.2.2.2.1.2) (hv1_4 : SlView W x1.Member.Events b1.2.2.2.2.1 b1.2.2.2.2.2) :
  Gives0 Tryz.prog 21 #[vCase x0 b0,vCase x1 b1] W (.bool r):=by
 unfold laws_eqCase at h
 refine en Tryz.func21 Tryz.ntmps21 ?_
 refine qs (qr (oB 3 [(3,.p 1 0),(2,.p 0 0)] [] [(54,(eCase x0 b0)),(54,(eCase x1 b1))] ?_))
 refine oe (nt (qs (qs (qr (oN 4 [(8,.v (vBook x1.Book b1.1)),(6,.v (vBook x0.Book b0.1))] [3,2] ?_)))))
 obtain ⟨a3,a4,a5⟩:=bS h
 refine k0 (fun _ w hs=>c_laws_eqBook a4 (hv0_0.k hs) (hv1_0.k hs)) ?_
 refine oN 1 [(10,vb (!a3))] [3,2] ?_
 refine oe (nt (cC a5 (fun a6=>?_) (fun a7=>?_)))
 ·refine qs (qr (oN 1 [(4,vb false)] [] ?_))
  refine oe (nt (qe (nr ?_)))
  obtain rfl:=sI a6
  exact re [.bool false]
 refine qk (nt (qs (qs (qr (oN 4 [(14,.v (vStore x1.Store b1.2.1)),(12,.v (vStore x0.Store b0.2.1))] [3,2] ?_)))))
 obtain ⟨a8,a9,aa⟩:=bS a7
 refine k0 (fun _ w hs=>c_laws_eqStore a9 (hv0_1.k hs) (hv1_1.k hs)) ?_
 refine oN 1 [(16,vb (!a8))] [3,2] ?_
 refine oe (nt (cC aa (fun ab=>?_) (fun ac=>?_)))
 ·refine qs (qr (oN 1 [(4,vb false)] [] ?_))
  refine oe (nt (qe (nr ?_)))
  obtain rfl:=sI ab
  exact re [.bool false]
 refine qk (nt (qs (qs (qr (oN 4 [(20,.v (vSeries x1.Series b1.2.2.1)),(18,.v (vSeries x0.Series b0.2.2.1))] [3,2] ?_)))))
 obtain ⟨ae,af,ag⟩:=bS ac
 refine k0 (fun _ w hs=>c_laws_eqSeries af (hv0_2.k hs) (hv1_2.k hs)) ?_
 refine oN 1 [(22,vb (!ae))] [3,2] ?_
 refine oe (nt (cC ag (fun ah=>?_) (fun ai=>?_)))
 ·refine qs (qr (oN 1 [(4,vb false)] [] ?_))
  refine oe (nt (qe (nr ?_)))
  obtain rfl:=sI ah
  exact re [.bool false]
 refine qk (nt (qs (qs (qr (oN 4 [(26,.v (vMember x1.Member b1.2.2.2)),(24,.v (vMember x0.Member b0.2.2.2))] [] ?_)))))
 obtain ⟨aj,ak,al⟩:=bS ai
 refine k0 (fun _ w hs=>c_laws_eqMember (b0:=b0.2.2.2) (b1:=b1.2.2.2) ak (hv0_3.k hs) (hv0_4.k hs) (hv1_3.k hs) (hv1_4.k hs)) ?_
 refine oN 1 [(28,vb (!aj))] [] ?_
 refine oe (nt (cC al (fun am=>?_) (fun an=>?_)))
 ·refine qs (qr (oN 1 [(4,vb false)] [] ?_))
  refine oe (nt (qe (nr ?_)))
  obtain rfl:=sI am
  exact re [.bool false]
 refine qk (nt (qs (qr (oN 1 [(4,vb true)] [] ?_))))
 refine oe (nt (qe ?_))
 obtain rfl:=sI an
 exact re [.bool true]
theorem c_laws_eqIntS {W : World} {x0 : List Int} {a0_0 : Option Addr} {c0_0 : Nat} {x1 : List Int} {a1_0 : Option Addr} {c1_0 : Nat} {r : Bool} (h : laws_eqIntS x0 x1 = some r) (hv0_0 : SlView W x0 a0_0 c0_0) (hv1_0 : SlView W x1 a1_0 c1_0) :
  Gives0 Tryz.prog 20 #[.slice a0_0 x0.length c0_0,.slice a1_0 x1.length c1_0] W (.bool r):=by
 unfold laws_eqIntS at h
 refine en Tryz.func20 Tryz.ntmps20 ?_
 refine qs (qr (oN 1 [] [0,1] ?_))
 refine oe (nt (qs (qs (qr (oN 5 [(10,vb ((x0.length : Int) != (x1.length : Int)))] [0,1] ?_)))))
 refine oe (nt (cC h (fun ac=>?_) (fun ae=>?_)))
 ·refine qs (qr (oN 1 [(4,vb false)] [] ?_))
  refine oe (nt (qe (nr ?_)))
  obtain rfl:=sI ac
  exact re [.bool false]
 refine qk (nt (qs (qs (qr (oN 1 [(5,vi 0)] [0,1] ?_)))))
 refine oe (nt ?_)
 obtain ⟨av,af,a4⟩:=bS ae
 obtain ⟨ag,ah,a4⟩:=brkS a4
 refine JC_cutP (τ:=(Unit) × (Unit)) (fun y=>ag y.1 = some r) (fun a5=>[]) (fun a5=>[]) (fun a5=>[]) ?_ (fun a5 ai=>?_)
 ·refine qb (lp Unit af (fun a3 a6=>[(5,vi a3),(0,vs a0_0 x0 c0_0),(1,vs a1_0 x1 c1_0)]) (fun a3 a6=>[]) (fun a3 a6=>[]) () [5,0,1] [] 0 (fun a3 a6 aw aj a7=>?_))
  refine qs (qs (qr (oN 4 [(14,vb (decide (a3 < (x0.length : Int))))] [5,0,1] ?_)))
  refine oe (nt (cC aj (fun ak=>?_) (fun al=>?_)))
  ·refine qk (nt (qs (qb (qs (JC_quiet (by kernel_rfl) (by kernel_rfl) ?_)))))
   refine qN 2 [(18,vi a3),(17,vs a0_0 x0 c0_0)] [5,0,1] ?_
   obtain ⟨a8,a9,am⟩:=bS ak
   refine qi 1 (fun _ w hs=>(hv0_0.k hs)) a9 ?_
   refine ql 3 0 (.int .i64 a8) (fun _ w hs=>(hv0_0.k hs).flatq a9) ?_
   refine qN 2 [(22,vi a3),(21,vs a1_0 x1 c1_0)] [20,5,0,1] ?_
   obtain ⟨aa,ab,an⟩:=bS am
   refine qi 1 (fun _ w hs=>(hv1_0.k hs)) ab ?_
   refine ql 3 0 (.int .i64 aa) (fun _ w hs=>(hv1_0.k hs).flatq ab) ?_
   refine qN 1 [(25,vb (a8 != aa))] [5,0,1] ?_
   refine qz (nt (cC an (fun ao=>?_) (fun ap=>?_)))
   ·refine qs (qr (oN 1 [(4,vb false)] [] ?_))
    refine oe (nt (qe (br (nr (nr ?_)))))
    have aq:=leafR a7 ao a4
    refine br (nr (nr ?_))
    obtain rfl:=sI aq
    exact re [.bool false]
   refine qk (bn (nt (qr (oN 3 [(5,vi (w64 (a3 + 1)))] [0,1] ?_))))
   exact oe (ct ap () [5,0,1] [] 0)
  refine qx (nx (nx (bh ?_)))
  have ar:=leafB a7 al a4
  exact mp ((),()) ar [] [] 0
 have au:=(congrFun ah _).symm.trans ai
 refine nt (qs (qr (oN 1 [(4,vb true)] [] ?_)))
 refine oe (nt (qe ?_))
 obtain rfl:=sI au
 exact re [.bool true]
theorem c_laws_eqOffice {W : World} {x0 : Office} {b0 : AC × AC × AC × AC × AC × AC} {x1 : Office} {b1 : AC × AC × AC × AC × AC × AC} {r : Bool} (h : laws_eqOffice x0 x1 = some r) (hv0_0 : SlView W x0.Case.Book.Rules b0.1.1 b0.1.2) (hv0_1 : SlView W x0.Case.Store.Facts b0.2.1.1 b0.2.1.2) (hv0_2 : SlView W x0.Case.Series.Points b0.2.2.1.1 b0.2.2.1.2) (hv0_3 : SlView W x0.Case.Member.Spells b0.2.2.2.1.1 b0.2.2.2.1.2) (hv0_4 : SlView W x0.Case.Member.Events b0.2.2.2.2.1.1 b0.2.2.2.2.1.2) (hv0_5 : SlView W x0.Paid b0.2.2.2.2.2.1 b0.2.2.2.2.2.2) (hv1_0 : SlView W x1.Case.Book.Rules b1.1.1 b1.1.2) (hv1_1 : SlView W x1.Case.Store.Facts b1.2.1.1 b1.2.1.2) (hv1_2 : SlView W x1.Case.Series.Points b1.2.2.1.1 b1.2.2.1.2) (hv1_3 : SlView W x1.Case.Member.Spells b1.2.2.2.1.1 b1.2.2.2.1.2) (hv1_4 : SlView W x1.Case.Member.Events b1.2.2.2.2.1.1 b1.2.2.2.2.1.2) (hv1_5 : SlView W x1.Paid b1.2.2.2.2.2.1 b1.2.2.2.2.2.2) :
  Gives0 Tryz.prog 19 #[vOffice x0 b0,vOffice x1 b1] W (.bool r):=by
 unfold laws_eqOffice at h
 refine en Tryz.func19 Tryz.ntmps19 ?_
 refine qs (qr (oB 3 [(3,.p 1 0),(2,.p 0 0)] [] [(57,(eOffice x0 b0)),(57,(eOffice x1 b1))] ?_))
 refine oe (nt (qs (qs (qr (oN 4 [(8,.v (vCase x1.Case (b1.1,b1.2.1,b1.2.2.1,b1.2.2.2.1,b1.2.2.2.2.1))),(6,.v (vCase x0.Case (b0.1,b0.2.1,b0.2.2.1,b0.2.2.2.1,b0.2.2.2.2.1)))] [3,2] ?_)))))
 obtain ⟨a3,a4,a5⟩:=bS h
 refine k0 (fun _ w hs=>c_laws_eqCase (b0:=(b0.1,b0.2.1,b0.2.2.1,b0.2.2.2.1,b0.2.2.2.2.1)) (b1:=(b1.1,b1.2.1,b1.2.2.1,b1.2.2.2.1,b1.2.2.2.2.1)) a4 (hv0_0.k hs) (hv0_1.k hs) (hv0_2.k hs) (hv0_3.k hs) (hv0_4.k hs) (hv1_0.k hs) (hv1_1.k hs) (hv1_2.k hs) (hv1_3.k hs) (hv1_4.k hs)) ?_
 refine oN 1 [(10,vb (!a3))] [3,2] ?_
 refine oe (nt (cC a5 (fun a6=>?_) (fun a7=>?_)))
 ·refine qs (qr (oN 1 [(4,vb false)] [] ?_))
  refine oe (nt (qe (nr ?_)))
  obtain rfl:=sI a6
  exact re [.bool false]
 refine qk (nt (qs (qs (qr (oN 5 [(15,vb (x0.Start != x1.Start))] [3,2] ?_)))))
 refine oe (nt (cC a7 (fun a8=>?_) (fun a9=>?_)))
 ·refine qs (qr (oN 1 [(4,vb false)] [] ?_))
  refine oe (nt (qe (nr ?_)))
  obtain rfl:=sI a8
  exact re [.bool false]
 refine qk (nt (qs (qs (qr (oN 4 [(19,sv b1.2.2.2.2.2 x1.Paid),(17,sv b0.2.2.2.2.2 x0.Paid)] [] ?_)))))
 obtain ⟨aa,ab,ac⟩:=bS a9
 refine k0 (fun _ w hs=>c_laws_eqIntS ab (hv0_5.k hs) (hv1_5.k hs)) ?_
 refine oN 1 [(21,vb (!aa))] [] ?_
 refine oe (nt (cC ac (fun ae=>?_) (fun af=>?_)))
 ·refine qs (qr (oN 1 [(4,vb false)] [] ?_))
  refine oe (nt (qe (nr ?_)))
  obtain rfl:=sI ae
  exact re [.bool false]
 refine qk (nt (qs (qr (oN 1 [(4,vb true)] [] ?_))))
 refine oe (nt (qe ?_))
 obtain rfl:=sI af
 exact re [.bool true]
theorem c_laws_eqAct {W : World} {x0 : Act} {x1 : Act} {r : Bool} (h : laws_eqAct x0 x1 = some r)  :
  Gives0 Tryz.prog 67 #[vAct x0,vAct x1] W (.bool r):=by
 unfold laws_eqAct at h
 refine en Tryz.func67 Tryz.ntmps67 ?_
 refine qs (qr (oB 3 [(3,.p 1 0),(2,.p 0 0)] [] [(87,(eAct x0)),(87,(eAct x1))] ?_))
 refine oe (nt (qs (qs (qr (oN 5 [(9,vb (x0.Kind != x1.Kind))] [3,2] ?_)))))
 refine oe (nt (cC h (fun a3=>?_) (fun a4=>?_)))
 ·refine qs (qr (oN 1 [(4,vb false)] [] ?_))
  refine oe (nt (qe (nr ?_)))
  obtain rfl:=sI a3
  exact re [.bool false]
 refine qk (nt (qs (qs (qr (oN 4 [(13,.v (vFact x1.Fact)),(11,.v (vFact x0.Fact))] [3,2] ?_)))))
 obtain ⟨a5,a6,a7⟩:=bS a4
 refine k0 (fun _ w hs=>c_laws_eqFact a6) ?_
 refine oN 1 [(15,vb (!a5))] [3,2] ?_
 refine oe (nt (cC a7 (fun a8=>?_) (fun a9=>?_)))
 ·refine qs (qr (oN 1 [(4,vb false)] [] ?_))
  refine oe (nt (qe (nr ?_)))
  obtain rfl:=sI a8
  exact re [.bool false]
 refine qk (nt (qs (qs (qr (oN 4 [(19,.v (vPoint x1.Point)),(17,.v (vPoint x0.Point))] [3,2] ?_)))))
 obtain ⟨aa,ab,ac⟩:=bS a9
 refine k0 (fun _ w hs=>c_laws_eqPoint ab) ?_
 refine oN 1 [(21,vb (!aa))] [3,2] ?_
 refine oe (nt (cC ac (fun ae=>?_) (fun af=>?_)))
 ·refine qs (qr (oN 1 [(4,vb false)] [] ?_))
  refine oe (nt (qe (nr ?_)))
  obtain rfl:=sI ae
  exact re [.bool false]
 refine qk (nt (qs (qs (qr (oN 5 [(26,vb (x0.N != x1.N))] [] ?_)))))
 refine oe (nt (cC af (fun ag=>?_) (fun ah=>?_)))
 ·refine qs (qr (oN 1 [(4,vb false)] [] ?_))
  refine oe (nt (qe (nr ?_)))
  obtain rfl:=sI ag
  exact re [.bool false]
 refine qk (nt (qs (qr (oN 1 [(4,vb true)] [] ?_))))
 refine oe (nt (qe ?_))
 obtain rfl:=sI ah
 exact re [.bool true]
theorem c_laws_eqActS {W : World} {x0 : List Act} {a0_0 : Option Addr} {c0_0 : Nat} {x1 : List Act} {a1_0 : Option Addr} {c1_0 : Nat} {r : Bool} (h : laws_eqActS x0 x1 = some r) (hv0_0 : SlView W x0 a0_0 c0_0) (hv1_0 : SlView W x1 a1_0 c1_0) :
  Gives0 Tryz.prog 22 #[.slice a0_0 x0.length c0_0,.slice a1_0 x1.length c1_0] W (.bool r):=by
 unfold laws_eqActS at h
 refine en Tryz.func22 Tryz.ntmps22 ?_
 refine qs (qr (oN 1 [] [0,1] ?_))
 refine oe (nt (qs (qs (qr (oN 5 [(10,vb ((x0.length : Int) != (x1.length : Int)))] [0,1] ?_)))))
 refine oe (nt (cC h (fun aa=>?_) (fun ab=>?_)))
 ·refine qs (qr (oN 1 [(4,vb false)] [] ?_))
  refine oe (nt (qe (nr ?_)))
  obtain rfl:=sI aa
  exact re [.bool false]
 refine qk (nt (qs (qs (qr (oN 1 [(5,vi 0)] [0,1] ?_)))))
 refine oe (nt ?_)
 obtain ⟨ay,ac,a4⟩:=bS ab
 obtain ⟨ae,af,a4⟩:=brkS a4
 refine JC_cutP (τ:=(Unit) × (Unit)) (fun y=>ae y.1 = some r) (fun a5=>[]) (fun a5=>[]) (fun a5=>[]) ?_ (fun a5 ag=>?_)
 ·refine qb (lp Unit ac (fun a3 a6=>[(5,vi a3),(0,vs a0_0 x0 c0_0),(1,vs a1_0 x1 c1_0)]) (fun a3 a6=>[]) (fun a3 a6=>[]) () [5,0,1] [] 0 (fun a3 a6 az ah a7=>?_))
  refine qs (qs (qr (oN 4 [(14,vb (decide (a3 < (x0.length : Int))))] [5,0,1] ?_)))
  refine oe (nt (cC ah (fun ai=>?_) (fun aj=>?_)))
  ·refine qk (nt (qs (qb (qs (JC_quiet (by kernel_rfl) (by kernel_rfl) ?_)))))
   refine qN 2 [(18,vi a3),(17,vs a0_0 x0 c0_0)] [5,0,1] ?_
   obtain ⟨ak,a8,al⟩:=bS ai
   refine qi 10 (fun _ w hs=>(hv0_0.k hs)) a8 ?_
   refine ql 87 0 (vAct ak) (fun _ w hs=>(hv0_0.k hs).flatq a8) ?_
   refine qN 2 [(22,vi a3),(21,vs a1_0 x1 c1_0)] [20,5,0,1] ?_
   obtain ⟨am,a9,an⟩:=bS al
   refine qi 10 (fun _ w hs=>(hv1_0.k hs)) a9 ?_
   refine ql 87 0 (vAct am) (fun _ w hs=>(hv1_0.k hs).flatq a9) ?_
   obtain ⟨ao,ap,aq⟩:=bS an
   refine q0 (fun _ w hs=>c_laws_eqAct ap) ?_
   refine qN 1 [(26,vb (!ao))] [5,0,1] ?_
   refine qz (nt (cC aq (fun ar=>?_) (fun au=>?_)))
   ·refine qs (qr (oN 1 [(4,vb false)] [] ?_))
    refine oe (nt (qe (br (nr (nr ?_)))))
    have av:=leafR a7 ar a4
    refine br (nr (nr ?_))
    obtain rfl:=sI av
    exact re [.bool false]
   refine qk (bn (nt (qr (oN 3 [(5,vi (w64 (a3 + 1)))] [0,1] ?_))))
   exact oe (ct au () [5,0,1] [] 0)
  refine qx (nx (nx (bh ?_)))
  have aw:=leafB a7 aj a4
  exact mp ((),()) aw [] [] 0
 have ax:=(congrFun af _).symm.trans ag
 refine nt (qs (qr (oN 1 [(4,vb true)] [] ?_)))
 refine oe (nt (qe ?_))
 obtain rfl:=sI ax
 exact re [.bool true]
theorem c_laws_markNodeS {W : World} {x0 : List Node} {a0_0 : Option Addr} {c0_0 : Nat} {e0_0 : TypeId} {x1 : Int} {r : Int × (List Node)} (h : laws_markNodeS x0 x1 = some r)  :
  GivesM Tryz.prog 158 #[.slice a0_0 x0.length c0_0,.int .i64 x1] W [SlRes e0_0 x0 a0_0 c0_0] [SlRes e0_0 r.2 a0_0 c0_0] (.int .i64 r.1):=by
 unfold laws_markNodeS at h
 refine enM Tryz.func158 Tryz.ntmps158 (fun Fs=>?_)
 refine qs (qr (oN 1 [] [0,1] ?_))
 refine oe (nt (qs (qs (qr (oN 1 [(5,vi 0)] [0,1] ?_)))))
 refine oe (nt ?_)
 obtain ⟨c3,ax,ai⟩:=bS h
 obtain ⟨ay,az,ai⟩:=brkS ai
 refine JC_cutP (τ:=((List Node) × Int) × (Unit)) (fun y=>ay y.1 = some r) (fun a4=>[(0,vs a0_0 a4.1.1 c0_0),(1,vi a4.1.2)]) (fun a4=>[]) (fun a4=>[SlRes e0_0 a4.1.1 a0_0 c0_0]) ?_ (fun a4 b4=>?_)
 ·refine qb (lp Unit ax (fun a3 aj=>[(5,vi a3.1),(0,vs a0_0 a3.2.1 c0_0),(1,vi a3.2.2)]) (fun a3 aj=>[]) (fun a3 aj=>[SlRes e0_0 a3.2.1 a0_0 c0_0]) () [5,0,1] [0] 0 (fun a3 aj c4 b5 b6=>?_))
  refine qs (qs (qr (oN 4 [(9,vb (decide (a3.1 < (a3.2.1.length : Int))))] [5,0,1] ?_)))
  refine oe (nt (cC b5 (fun b7=>?_) (fun b8=>?_)))
  ·refine qk (nt (qs (qb (qs (qr (oN 3 [(14,vi a3.2.2),(13,vi a3.1),(12,vs a0_0 a3.2.1 c0_0)] [5,0,1] ?_))))))
   obtain ⟨a7,ap,b9⟩:=bS b7
   refine oi 6 (fun _ w hs=>(hs.view 0 rfl)) ap ?_
   refine oN 1 [(16,.q a0_0 (Int.toNat a3.1 * 6))] [14,5,0,1] ?_
   obtain ⟨ak,a8,ba⟩:=bS b9
   replace a8:=(sI a8).symm
   refine JO_storeq (α:=Node) (d:=a0_0) (vs:=[.int .i64 a3.2.2]) (j:=a3.1) (x':=(Node.mk a3.2.2 a7.A a7.B a7.C a7.Value)) rfl (by kernel_rfl) 0 (by kernel_rfl) ap (Rc:=[]) (Rr:=[]) rfl (by kernel_rfl) (fun w c F Fs ho _ _=>own_flat_set (by kernel_rfl) ho) a8 rfl ?_
   have bb:=len_set a8
   refine JO_keep [14,5,0,1] (sl':=[(14,vi a3.2.2),(5,vi a3.1),(0,vs a0_0 a3.2.1 c0_0),(1,vi a3.2.2)]) (by kernel_rfl) ?_
   refine JO_eqE (sl':=[(14,vi a3.2.2),(5,vi a3.1),(0,vs a0_0 ak c0_0),(1,vi a3.2.2)]) (bx':=[]) (by simp only [vs,sv,bb]) rfl ?_
   refine oe (nt (qs (qr (oN 3 [(1,vi (w64 (a3.2.2 + 1)))] [5,0] ?_))))
   refine oe (nt (qs (qr (oN 3 [(21,vi (w64 (a3.2.2 + 1))),(20,vi a3.1),(19,vs a0_0 ak c0_0)] [1,5,0] ?_))))
   obtain ⟨a9,aq,bc⟩:=bS ba
   refine oi 6 (fun _ w hs=>(hs.view 0 rfl)) aq ?_
   refine oN 1 [(23,.q a0_0 (Int.toNat a3.1 * 6 + 1))] [21,1,5,0] ?_
   obtain ⟨al,aa,bd⟩:=bS bc
   replace aa:=(sI aa).symm
   refine JO_storeq (α:=Node) (d:=a0_0) (vs:=[.int .i64 (w64 (a3.2.2 + 1))]) (j:=a3.1) (x':=(Node.mk a9.Kind (w64 (a3.2.2 + 1)) a9.B a9.C a9.Value)) rfl (by kernel_rfl) 1 (by kernel_rfl) aq (Rc:=[]) (Rr:=[]) rfl (by kernel_rfl) (fun w c F Fs ho _ _=>own_flat_set (by kernel_rfl) ho) aa rfl ?_
   have be:=len_set aa
   refine JO_keep [21,1,5,0] (sl':=[(21,vi (w64 (a3.2.2 + 1))),(1,vi (w64 (a3.2.2 + 1))),(5,vi a3.1),(0,vs a0_0 ak c0_0)]) (by kernel_rfl) ?_
   refine JO_eqE (sl':=[(21,vi (w64 (a3.2.2 + 1))),(1,vi (w64 (a3.2.2 + 1))),(5,vi a3.1),(0,vs a0_0 al c0_0)]) (bx':=[]) (by simp only [vs,sv,be]) rfl ?_
   refine oe (nt (qs (qr (oN 3 [(1,vi (w64 ((w64 (a3.2.2 + 1)) + 1)))] [5,0] ?_))))
   refine oe (nt (qs (qr (oN 3 [(28,vi (w64 ((w64 (a3.2.2 + 1)) + 1))),(27,vi a3.1),(26,vs a0_0 al c0_0)] [1,5,0] ?_))))
   obtain ⟨ab,ar,bf⟩:=bS bd
   refine oi 6 (fun _ w hs=>(hs.view 0 rfl)) ar ?_
   refine oN 1 [(30,.q a0_0 (Int.toNat a3.1 * 6 + 2))] [28,1,5,0] ?_
   obtain ⟨am,ac,bg⟩:=bS bf
   replace ac:=(sI ac).symm
   refine JO_storeq (α:=Node) (d:=a0_0) (vs:=[.int .i64 (w64 ((w64 (a3.2.2 + 1)) + 1))]) (j:=a3.1) (x':=(Node.mk ab.Kind ab.A (w64 ((w64 (a3.2.2 + 1)) + 1)) ab.C ab.Value)) rfl (by kernel_rfl) 2 (by kernel_rfl) ar (Rc:=[]) (Rr:=[]) rfl (by kernel_rfl) (fun w c F Fs ho _ _=>own_flat_set (by kernel_rfl) ho) ac rfl ?_
   have bi:=len_set ac
   refine JO_keep [28,1,5,0] (sl':=[(28,vi (w64 ((w64 (a3.2.2 + 1)) + 1))),(1,vi (w64 ((w64 (a3.2.2 + 1)) + 1))),(5,vi a3.1),(0,vs a0_0 al c0_0)]) (by kernel_rfl) ?_
   refine JO_eqE (sl':=[(28,vi (w64 ((w64 (a3.2.2 + 1)) + 1))),(1,vi (w64 ((w64 (a3.2.2 + 1)) + 1))),(5,vi a3.1),(0,vs a0_0 am c0_0)]) (bx':=[]) (by simp only [vs,sv,bi]) rfl ?_
   refine oe (nt (qs (qr (oN 3 [(1,vi (w64 ((w64 ((w64 (a3.2.2 + 1)) + 1)) + 1)))] [5,0] ?_))))
   refine oe (nt (qs (qr (oN 3 [(35,vi (w64 ((w64 ((w64 (a3.2.2 + 1)) + 1)) + 1))),(34,vi a3.1),(33,vs a0_0 am c0_0)] [1,5,0] ?_))))
   obtain ⟨ae,au,bj⟩:=bS bg
   refine oi 6 (fun _ w hs=>(hs.view 0 rfl)) au ?_
   refine oN 1 [(37,.q a0_0 (Int.toNat a3.1 * 6 + 3))] [35,1,5,0] ?_
   obtain ⟨an,af,bk⟩:=bS bj
   replace af:=(sI af).symm
   refine JO_storeq (α:=Node) (d:=a0_0) (vs:=[.int .i64 (w64 ((w64 ((w64 (a3.2.2 + 1)) + 1)) + 1))]) (j:=a3.1) (x':=(Node.mk ae.Kind ae.A ae.B (w64 ((w64 ((w64 (a3.2.2 + 1)) + 1)) + 1)) ae.Value)) rfl (by kernel_rfl) 3 (by kernel_rfl) au (Rc:=[]) (Rr:=[]) rfl (by kernel_rfl) (fun w c F Fs ho _ _=>own_flat_set (by kernel_rfl) ho) af rfl ?_
   have bl:=len_set af
   refine JO_keep [35,1,5,0] (sl':=[(35,vi (w64 ((w64 ((w64 (a3.2.2 + 1)) + 1)) + 1))),(1,vi (w64 ((w64 ((w64 (a3.2.2 + 1)) + 1)) + 1))),(5,vi a3.1),(0,vs a0_0 am c0_0)]) (by kernel_rfl) ?_
   refine JO_eqE (sl':=[(35,vi (w64 ((w64 ((w64 (a3.2.2 + 1)) + 1)) + 1))),(1,vi (w64 ((w64 ((w64 (a3.2.2 + 1)) + 1)) + 1))),(5,vi a3.1),(0,vs a0_0 an c0_0)]) (bx':=[]) (by simp only [vs,sv,bl]) rfl ?_
   refine oe (nt (qs (qr (oN 3 [(1,vi (w64 ((w64 ((w64 ((w64 (a3.2.2 + 1)) + 1)) + 1)) + 1)))] [5,0] ?_))))
   refine oe (nt (qs (qr (oN 3 [(42,vi (w64 ((w64 ((w64 ((w64 (a3.2.2 + 1)) + 1)) + 1)) + 1))),(41,vi a3.1),(40,vs a0_0 an c0_0)] [1,5,0] ?_))))
   obtain ⟨a5,av,bm⟩:=bS bk
   refine oi 6 (fun _ w hs=>(hs.view 0 rfl)) av ?_
   refine oN 2 [(45,.q a0_0 (Int.toNat a3.1 * 6 + 4))] [42,1,5,0] ?_
   obtain ⟨ao,ag,bo⟩:=bS bm
   replace ag:=(sI ag).symm
   refine JO_storeq (α:=Node) (d:=a0_0) (vs:=[.int .i64 (w64 ((w64 ((w64 ((w64 (a3.2.2 + 1)) + 1)) + 1)) + 1))]) (j:=a3.1) (x':=(Node.mk a5.Kind a5.A a5.B a5.C (Frac.mk (w64 ((w64 ((w64 ((w64 (a3.2.2 + 1)) + 1)) + 1)) + 1)) a5.Value.Den))) rfl (by kernel_rfl) 4 (by kernel_rfl) av (Rc:=[]) (Rr:=[]) rfl (by kernel_rfl) (fun w c F Fs ho _ _=>own_flat_set (by kernel_rfl) ho) ag rfl ?_
   have bp:=len_set ag
   refine JO_keep [42,1,5,0] (sl':=[(42,vi (w64 ((w64 ((w64 ((w64 (a3.2.2 + 1)) + 1)) + 1)) + 1))),(1,vi (w64 ((w64 ((w64 ((w64 (a3.2.2 + 1)) + 1)) + 1)) + 1))),(5,vi a3.1),(0,vs a0_0 an c0_0)]) (by kernel_rfl) ?_
   refine JO_eqE (sl':=[(42,vi (w64 ((w64 ((w64 ((w64 (a3.2.2 + 1)) + 1)) + 1)) + 1))),(1,vi (w64 ((w64 ((w64 ((w64 (a3.2.2 + 1)) + 1)) + 1)) + 1))),(5,vi a3.1),(0,vs a0_0 ao c0_0)]) (bx':=[]) (by simp only [vs,sv,bp]) rfl ?_
   refine oe (nt (qs (qr (oN 3 [(1,vi (w64 ((w64 ((w64 ((w64 ((w64 (a3.2.2 + 1)) + 1)) + 1)) + 1)) + 1)))] [5,0] ?_))))
   refine oe (nt (qs (qr (oN 3 [(50,vi (w64 ((w64 ((w64 ((w64 ((w64 (a3.2.2 + 1)) + 1)) + 1)) + 1)) + 1))),(49,vi a3.1),(48,vs a0_0 ao c0_0)] [1,5,0] ?_))))
   obtain ⟨a6,aw,bq⟩:=bS bo
   refine oi 6 (fun _ w hs=>(hs.view 0 rfl)) aw ?_
   refine oN 2 [(53,.q a0_0 (Int.toNat a3.1 * 6 + 5))] [50,1,5,0] ?_
   obtain ⟨bs,ah,bu⟩:=bS bq
   replace ah:=(sI ah).symm
   refine JO_storeq (α:=Node) (d:=a0_0) (vs:=[.int .i64 (w64 ((w64 ((w64 ((w64 ((w64 (a3.2.2 + 1)) + 1)) + 1)) + 1)) + 1))]) (j:=a3.1) (x':=(Node.mk a6.Kind a6.A a6.B a6.C (Frac.mk a6.Value.Num (w64 ((w64 ((w64 ((w64 ((w64 (a3.2.2 + 1)) + 1)) + 1)) + 1)) + 1))))) rfl (by kernel_rfl) 5 (by kernel_rfl) aw (Rc:=[]) (Rr:=[]) rfl (by kernel_rfl) (fun w c F Fs ho _ _=>own_flat_set (by kernel_rfl) ho) ah rfl ?_
   have bv:=len_set ah
   refine JO_keep [50,1,5,0] (sl':=[(50,vi (w64 ((w64 ((w64 ((w64 ((w64 (a3.2.2 + 1)) + 1)) + 1)) + 1)) + 1))),(1,vi (w64 ((w64 ((w64 ((w64 ((w64 (a3.2.2 + 1)) + 1)) + 1)) + 1)) + 1))),(5,vi a3.1),(0,vs a0_0 ao c0_0)]) (by kernel_rfl) ?_
   refine JO_eqE (sl':=[(50,vi (w64 ((w64 ((w64 ((w64 ((w64 (a3.2.2 + 1)) + 1)) + 1)) + 1)) + 1))),(1,vi (w64 ((w64 ((w64 ((w64 ((w64 (a3.2.2 + 1)) + 1)) + 1)) + 1)) + 1))),(5,vi a3.1),(0,vs a0_0 bs c0_0)]) (bx':=[]) (by simp only [vs,sv,bv]) rfl ?_
   refine oe (nt (qr (oN 3 [(1,vi (w64 ((w64 ((w64 ((w64 ((w64 ((w64 (a3.2.2 + 1)) + 1)) + 1)) + 1)) + 1)) + 1)))] [5,0] ?_)))
   refine oe (bn (nt (qr (oN 3 [(5,vi (w64 (a3.1 + 1)))] [1,0] ?_))))
   exact oe (ct bu () [5,0,1] [0] 0)
  refine qx (nx (nx (bh ?_)))
  have bw:=leafB b6 b8 ai
  exact mp ((a3.2.1,a3.2.2),()) bw [0,1] [0] 0
 have bz:=(congrFun az _).symm.trans b4
 refine nt (qs (qr (oN 2 [(4,vi a4.1.2)] [0] ?_)))
 refine oe (nt (qe (rt [.int .i64 a4.1.2] (fun _ w hs=>?_))))
 rw [← sI bz]
 exact hs.turned (is:=[0]) rfl
theorem c_laws_markRuleS {W : World} {x0 : List Rule} {a0_0 : Option Addr} {c0_0 : Nat} {e0_0 : TypeId} {x1 : Int} {r : Int × (List Rule)} (h : laws_markRuleS x0 x1 = some r)  :
  GivesM Tryz.prog 114 #[.slice a0_0 x0.length c0_0,.int .i64 x1] W [SlRes e0_0 x0 a0_0 c0_0] [SlRes e0_0 r.2 a0_0 c0_0] (.int .i64 r.1):=by
 unfold laws_markRuleS at h
 refine enM Tryz.func114 Tryz.ntmps114 (fun Fs=>?_)
 refine qs (qr (oN 1 [] [0,1] ?_))
 refine oe (nt (qs (qs (qr (oN 1 [(5,vi 0)] [0,1] ?_)))))
 refine oe (nt ?_)
 obtain ⟨cj,ba,ap⟩:=bS h
 obtain ⟨bb,bc,ap⟩:=brkS ap
 refine JC_cutP (τ:=((List Rule) × Int) × (Unit)) (fun y=>bb y.1 = some r) (fun a8=>[(0,vs a0_0 a8.1.1 c0_0),(1,vi a8.1.2)]) (fun a8=>[]) (fun a8=>[SlRes e0_0 a8.1.1 a0_0 c0_0]) ?_ (fun a8 bd=>?_)
 ·refine qb (lp Unit ba (fun a3 aq=>[(5,vi a3.1),(0,vs a0_0 a3.2.1 c0_0),(1,vi a3.2.2)]) (fun a3 aq=>[]) (fun a3 aq=>[SlRes e0_0 a3.2.1 a0_0 c0_0]) () [5,0,1] [0] 0 (fun a3 aq ck be bf=>?_))
  refine qs (qs (qr (oN 4 [(9,vb (decide (a3.1 < (a3.2.1.length : Int))))] [5,0,1] ?_)))
  refine oe (nt (cC be (fun bg=>?_) (fun bi=>?_)))
  ·refine qk (nt (qs (qb (qs (qr (oN 3 [(14,vi a3.2.2),(13,vi a3.1),(12,vs a0_0 a3.2.1 c0_0)] [5,0,1] ?_))))))
   obtain ⟨a9,az,bj⟩:=bS bg
   refine oi 7 (fun _ w hs=>(hs.view 0 rfl)) az ?_
   refine oN 1 [(16,.q a0_0 (Int.toNat a3.1 * 7))] [14,5,0,1] ?_
   obtain ⟨ar,ah,bk⟩:=bS bj
   replace ah:=(sI ah).symm
   refine JO_storeq (α:=Rule) (d:=a0_0) (vs:=[.int .i64 a3.2.2]) (j:=a3.1) (x':=(Rule.mk a3.2.2 a9.From a9.To a9.Joined a9.Rank a9.Mode a9.Nodes)) rfl (by kernel_rfl) 0 (by kernel_rfl) az (Rc:=[]) (Rr:=[]) rfl (by kernel_rfl) (by rintro w c F Fs ⟨e0,a0,c0,F0,hF,rfl,q0⟩ _ hn; exact ⟨F,⟨e0,a0,c0,F0,hF,rfl,q0⟩,(List.nodup_append.1 hn).1,fun g hg=>by simp [hg]⟩) ah rfl ?_
   have bl:=len_set ah
   refine JO_keep [14,5,0,1] (sl':=[(14,vi a3.2.2),(5,vi a3.1),(0,vs a0_0 a3.2.1 c0_0),(1,vi a3.2.2)]) (by kernel_rfl) ?_
   refine JO_eqE (sl':=[(14,vi a3.2.2),(5,vi a3.1),(0,vs a0_0 ar c0_0),(1,vi a3.2.2)]) (bx':=[]) (by simp only [vs,sv,bl]) rfl ?_
   refine oe (nt (qs (qr (oN 3 [(1,vi (w64 (a3.2.2 + 1)))] [5,0] ?_))))
   refine oe (nt (qs (qr (oN 3 [(21,vi (w64 (a3.2.2 + 1))),(20,vi a3.1),(19,vs a0_0 ar c0_0)] [1,5,0] ?_))))
   obtain ⟨aa,b4,bm⟩:=bS bk
   refine oi 7 (fun _ w hs=>(hs.view 0 rfl)) b4 ?_
   refine oN 1 [(23,.q a0_0 (Int.toNat a3.1 * 7 + 1))] [21,1,5,0] ?_
   obtain ⟨au,ai,bo⟩:=bS bm
   replace ai:=(sI ai).symm
   refine JO_storeq (α:=Rule) (d:=a0_0) (vs:=[.int .i64 (w64 (a3.2.2 + 1))]) (j:=a3.1) (x':=(Rule.mk aa.Name (w64 (a3.2.2 + 1)) aa.To aa.Joined aa.Rank aa.Mode aa.Nodes)) rfl (by kernel_rfl) 1 (by kernel_rfl) b4 (Rc:=[]) (Rr:=[]) rfl (by kernel_rfl) (by rintro w c F Fs ⟨e0,a0,c0,F0,hF,rfl,q0⟩ _ hn; exact ⟨F,⟨e0,a0,c0,F0,hF,rfl,q0⟩,(List.nodup_append.1 hn).1,fun g hg=>by simp [hg]⟩) ai rfl ?_
   have bp:=len_set ai
   refine JO_keep [21,1,5,0] (sl':=[(21,vi (w64 (a3.2.2 + 1))),(1,vi (w64 (a3.2.2 + 1))),(5,vi a3.1),(0,vs a0_0 ar c0_0)]) (by kernel_rfl) ?_
   refine JO_eqE (sl':=[(21,vi (w64 (a3.2.2 + 1))),(1,vi (w64 (a3.2.2 + 1))),(5,vi a3.1),(0,vs a0_0 au c0_0)]) (bx':=[]) (by simp only [vs,sv,bp]) rfl ?_
   refine oe (nt (qs (qr (oN 3 [(1,vi (w64 ((w64 (a3.2.2 + 1)) + 1)))] [5,0] ?_))))
   refine oe (nt (qs (qr (oN 3 [(28,vi (w64 ((w64 (a3.2.2 + 1)) + 1))),(27,vi a3.1),(26,vs a0_0 au c0_0)] [1,5,0] ?_))))
   obtain ⟨ab,b5,bq⟩:=bS bo
   refine oi 7 (fun _ w hs=>(hs.view 0 rfl)) b5 ?_
   refine oN 1 [(30,.q a0_0 (Int.toNat a3.1 * 7 + 2))] [28,1,5,0] ?_
   obtain ⟨av,aj,bs⟩:=bS bq
   replace aj:=(sI aj).symm
   refine JO_storeq (α:=Rule) (d:=a0_0) (vs:=[.int .i64 (w64 ((w64 (a3.2.2 + 1)) + 1))]) (j:=a3.1) (x':=(Rule.mk ab.Name ab.From (w64 ((w64 (a3.2.2 + 1)) + 1)) ab.Joined ab.Rank ab.Mode ab.Nodes)) rfl (by kernel_rfl) 2 (by kernel_rfl) b5 (Rc:=[]) (Rr:=[]) rfl (by kernel_rfl) (by rintro w c F Fs ⟨e0,a0,c0,F0,hF,rfl,q0⟩ _ hn; exact ⟨F,⟨e0,a0,c0,F0,hF,rfl,q0⟩,(List.nodup_append.1 hn).1,fun g hg=>by simp [hg]⟩) aj rfl ?_
   have bu:=len_set aj
   refine JO_keep [28,1,5,0] (sl':=[(28,vi (w64 ((w64 (a3.2.2 + 1)) + 1))),(1,vi (w64 ((w64 (a3.2.2 + 1)) + 1))),(5,vi a3.1),(0,vs a0_0 au c0_0)]) (by kernel_rfl) ?_
   refine JO_eqE (sl':=[(28,vi (w64 ((w64 (a3.2.2 + 1)) + 1))),(1,vi (w64 ((w64 (a3.2.2 + 1)) + 1))),(5,vi a3.1),(0,vs a0_0 av c0_0)]) (bx':=[]) (by simp only [vs,sv,bu]) rfl ?_
   refine oe (nt (qs (qr (oN 3 [(1,vi (w64 ((w64 ((w64 (a3.2.2 + 1)) + 1)) + 1)))] [5,0] ?_))))
   refine oe (nt (qs (qr (oN 3 [(35,vi (w64 ((w64 ((w64 (a3.2.2 + 1)) + 1)) + 1))),(34,vi a3.1),(33,vs a0_0 av c0_0)] [1,5,0] ?_))))
   obtain ⟨ac,b6,bv⟩:=bS bs
   refine oi 7 (fun _ w hs=>(hs.view 0 rfl)) b6 ?_
   refine oN 1 [(37,.q a0_0 (Int.toNat a3.1 * 7 + 3))] [35,1,5,0] ?_
   obtain ⟨aw,ak,bw⟩:=bS bv
   replace ak:=(sI ak).symm
   refine JO_storeq (α:=Rule) (d:=a0_0) (vs:=[.int .i64 (w64 ((w64 ((w64 (a3.2.2 + 1)) + 1)) + 1))]) (j:=a3.1) (x':=(Rule.mk ac.Name ac.From ac.To (w64 ((w64 ((w64 (a3.2.2 + 1)) + 1)) + 1)) ac.Rank ac.Mode ac.Nodes)) rfl (by kernel_rfl) 3 (by kernel_rfl) b6 (Rc:=[]) (Rr:=[]) rfl (by kernel_rfl) (by rintro w c F Fs ⟨e0,a0,c0,F0,hF,rfl,q0⟩ _ hn; exact ⟨F,⟨e0,a0,c0,F0,hF,rfl,q0⟩,(List.nodup_append.1 hn).1,fun g hg=>by simp [hg]⟩) ak rfl ?_
   have bz:=len_set ak
   refine JO_keep [35,1,5,0] (sl':=[(35,vi (w64 ((w64 ((w64 (a3.2.2 + 1)) + 1)) + 1))),(1,vi (w64 ((w64 ((w64 (a3.2.2 + 1)) + 1)) + 1))),(5,vi a3.1),(0,vs a0_0 av c0_0)]) (by kernel_rfl) ?_
   refine JO_eqE (sl':=[(35,vi (w64 ((w64 ((w64 (a3.2.2 + 1)) + 1)) + 1))),(1,vi (w64 ((w64 ((w64 (a3.2.2 + 1)) + 1)) + 1))),(5,vi a3.1),(0,vs a0_0 aw c0_0)]) (bx':=[]) (by simp only [vs,sv,bz]) rfl ?_
   refine oe (nt (qs (qr (oN 3 [(1,vi (w64 ((w64 ((w64 ((w64 (a3.2.2 + 1)) + 1)) + 1)) + 1)))] [5,0] ?_))))
   refine oe (nt (qs (qr (oN 3 [(42,vi (w64 ((w64 ((w64 ((w64 (a3.2.2 + 1)) + 1)) + 1)) + 1))),(41,vi a3.1),(40,vs a0_0 aw c0_0)] [1,5,0] ?_))))
   obtain ⟨ae,b7,c3⟩:=bS bw
   refine oi 7 (fun _ w hs=>(hs.view 0 rfl)) b7 ?_
   refine oN 1 [(44,.q a0_0 (Int.toNat a3.1 * 7 + 4))] [42,1,5,0] ?_
   obtain ⟨ax,al,c4⟩:=bS c3
   replace al:=(sI al).symm
   refine JO_storeq (α:=Rule) (d:=a0_0) (vs:=[.int .i64 (w64 ((w64 ((w64 ((w64 (a3.2.2 + 1)) + 1)) + 1)) + 1))]) (j:=a3.1) (x':=(Rule.mk ae.Name ae.From ae.To ae.Joined (w64 ((w64 ((w64 ((w64 (a3.2.2 + 1)) + 1)) + 1)) + 1)) ae.Mode ae.Nodes)) rfl (by kernel_rfl) 4 (by kernel_rfl) b7 (Rc:=[]) (Rr:=[]) rfl (by kernel_rfl) (by rintro w c F Fs ⟨e0,a0,c0,F0,hF,rfl,q0⟩ _ hn; exact ⟨F,⟨e0,a0,c0,F0,hF,rfl,q0⟩,(List.nodup_append.1 hn).1,fun g hg=>by simp [hg]⟩) al rfl ?_
   have c5:=len_set al
   refine JO_keep [42,1,5,0] (sl':=[(42,vi (w64 ((w64 ((w64 ((w64 (a3.2.2 + 1)) + 1)) + 1)) + 1))),(1,vi (w64 ((w64 ((w64 ((w64 (a3.2.2 + 1)) + 1)) + 1)) + 1))),(5,vi a3.1),(0,vs a0_0 aw c0_0)]) (by kernel_rfl) ?_
   refine JO_eqE (sl':=[(42,vi (w64 ((w64 ((w64 ((w64 (a3.2.2 + 1)) + 1)) + 1)) + 1))),(1,vi (w64 ((w64 ((w64 ((w64 (a3.2.2 + 1)) + 1)) + 1)) + 1))),(5,vi a3.1),(0,vs a0_0 ax c0_0)]) (bx':=[]) (by simp only [vs,sv,c5]) rfl ?_
   refine oe (nt (qs (qr (oN 3 [(1,vi (w64 ((w64 ((w64 ((w64 ((w64 (a3.2.2 + 1)) + 1)) + 1)) + 1)) + 1)))] [5,0] ?_))))
   refine oe (nt (qs (qr (oN 3 [(49,vi (w64 ((w64 ((w64 ((w64 ((w64 (a3.2.2 + 1)) + 1)) + 1)) + 1)) + 1))),(48,vi a3.1),(47,vs a0_0 ax c0_0)] [1,5,0] ?_))))
   obtain ⟨af,b8,c6⟩:=bS c4
   refine oi 7 (fun _ w hs=>(hs.view 0 rfl)) b8 ?_
   refine oN 1 [(51,.q a0_0 (Int.toNat a3.1 * 7 + 5))] [49,1,5,0] ?_
   obtain ⟨ag,am,c7⟩:=bS c6
   replace am:=(sI am).symm
   refine JO_storeq (α:=Rule) (d:=a0_0) (vs:=[.int .i64 (w64 ((w64 ((w64 ((w64 ((w64 (a3.2.2 + 1)) + 1)) + 1)) + 1)) + 1))]) (j:=a3.1) (x':=(Rule.mk af.Name af.From af.To af.Joined af.Rank (w64 ((w64 ((w64 ((w64 ((w64 (a3.2.2 + 1)) + 1)) + 1)) + 1)) + 1)) af.Nodes)) rfl (by kernel_rfl) 5 (by kernel_rfl) b8 (Rc:=[]) (Rr:=[]) rfl (by kernel_rfl) (by rintro w c F Fs ⟨e0,a0,c0,F0,hF,rfl,q0⟩ _ hn; exact ⟨F,⟨e0,a0,c0,F0,hF,rfl,q0⟩,(List.nodup_append.1 hn).1,fun g hg=>by simp [hg]⟩) am rfl ?_
   have c8:=len_set am
   refine JO_keep [49,1,5,0] (sl':=[(49,vi (w64 ((w64 ((w64 ((w64 ((w64 (a3.2.2 + 1)) + 1)) + 1)) + 1)) + 1))),(1,vi (w64 ((w64 ((w64 ((w64 ((w64 (a3.2.2 + 1)) + 1)) + 1)) + 1)) + 1))),(5,vi a3.1),(0,vs a0_0 ax c0_0)]) (by kernel_rfl) ?_
   refine JO_eqE (sl':=[(49,vi (w64 ((w64 ((w64 ((w64 ((w64 (a3.2.2 + 1)) + 1)) + 1)) + 1)) + 1))),(1,vi (w64 ((w64 ((w64 ((w64 ((w64 (a3.2.2 + 1)) + 1)) + 1)) + 1)) + 1))),(5,vi a3.1),(0,vs a0_0 ag c0_0)]) (bx':=[]) (by simp only [vs,sv,c8]) rfl ?_
   refine oe (nt (qs (qr (oN 3 [(1,vi (w64 ((w64 ((w64 ((w64 ((w64 ((w64 (a3.2.2 + 1)) + 1)) + 1)) + 1)) + 1)) + 1)))] [5,0] ?_))))
   refine oe (nt (qr (oN 2 [(55,vi a3.1),(54,vs a0_0 ag c0_0)] [1,5,0] ?_)))
   obtain ⟨a4,ay,c9⟩:=bS c7
   refine oi 7 (fun _ w hs=>(hs.view 0 rfl)) ay ?_
   refine oN 1 [(57,.q a0_0 (Int.toNat a3.1 * 7 + 6))] [1,5,0] ?_
   refine JO_open1 (Rr:=[]) rfl ay (fun a5 a6=>[.int .i64 a4.Name,.int .i64 a4.From,.int .i64 a4.To,.int .i64 a4.Joined,.int .i64 a4.Rank,.int .i64 a4.Mode,.slice a5 a4.Nodes.length a6]) a4.Nodes (by rintro w F c ⟨e0,a0,c0,F0,rfl,rfl,h0⟩; exact ⟨e0,a0,c0,rfl,h0⟩) (fun an a5 a6=>?_)
   refine ol 186 6 (.slice a5 a4.Nodes.length a6) (fun _ w hs=>hs.holeCells 0 rfl ay rfl) ?_
   refine oN 1 [(59,vi (w64 ((w64 ((w64 ((w64 ((w64 ((w64 (a3.2.2 + 1)) + 1)) + 1)) + 1)) + 1)) + 1)))] [58,5,0] ?_
   refine or_ [1,0] ?_
   obtain ⟨a7,ca,cb⟩:=bS c9
   obtain ⟨cl,cc,cd⟩:=bS cb
   have b9:=(sameLen_some cc).symm
   refine JO_callM rfl (by kernel_rfl) (f:=158) (args:=#[.slice a5 a4.Nodes.length a6,.int .i64 (w64 ((w64 ((w64 ((w64 ((w64 ((w64 (a3.2.2 + 1)) + 1)) + 1)) + 1)) + 1)) + 1))]) (by kernel_rfl) (x:=.int .i64 a7.1) (Rin:=[SlRes an a4.Nodes a5 a6]) (Rout:=[SlRes an a7.2 a5 a6]) (Rr:=[HoleRes e0_0 ag a0_0 c0_0 (Int.toNat a3.1) [.int .i64 a4.Name,.int .i64 a4.From,.int .i64 a4.To,.int .i64 a4.Joined,.int .i64 a4.Rank,.int .i64 a4.Mode,.slice a5 a4.Nodes.length a6]]) rfl (fun w=>(by have vv:=c_laws_markNodeS (e0_0:=an) (a0_0:=a5) (c0_0:=a6) (W:=w) ca; exact vv)) (sl':=[(60,vi a7.1),(59,vi (w64 ((w64 ((w64 ((w64 ((w64 ((w64 (a3.2.2 + 1)) + 1)) + 1)) + 1)) + 1)) + 1))),(58,vs a5 a4.Nodes a6),(5,vi a3.1),(0,vs a0_0 ag c0_0)]) (by kernel_rfl) ?_
   refine JO_eqE (sl':=[(60,vi a7.1),(59,vi (w64 ((w64 ((w64 ((w64 ((w64 ((w64 (a3.2.2 + 1)) + 1)) + 1)) + 1)) + 1)) + 1))),(58,vs a5 a7.2 a6),(5,vi a3.1),(0,vs a0_0 ag c0_0)]) (bx':=[]) (by simp only [vs,sv,b9]) rfl ?_
   obtain ⟨ce,ao,cf⟩:=bS cd
   replace ao:=(sI ao).symm
   refine JO_close1 (Rr:=[]) (x':=(Rule.mk a4.Name a4.From a4.To a4.Joined a4.Rank a4.Mode a7.2)) rfl (fun w F hF=>⟨an,a5,a6,F,rfl,by simp only [b9],hF⟩) ao ?_
   have cg:=len_set ao
   refine JO_keep [60,59,5,0] (sl':=[(60,vi a7.1),(59,vi (w64 ((w64 ((w64 ((w64 ((w64 ((w64 (a3.2.2 + 1)) + 1)) + 1)) + 1)) + 1)) + 1))),(5,vi a3.1),(0,vs a0_0 ag c0_0)]) (by kernel_rfl) ?_
   refine JO_eqE (sl':=[(60,vi a7.1),(59,vi (w64 ((w64 ((w64 ((w64 ((w64 ((w64 (a3.2.2 + 1)) + 1)) + 1)) + 1)) + 1)) + 1))),(5,vi a3.1),(0,vs a0_0 ce c0_0)]) (bx':=[]) (by simp only [vs,sv,cg]) rfl ?_
   refine oN 1 [(1,vi a7.1)] [5,0] ?_
   refine oe (bn (nt (qr (oN 3 [(5,vi (w64 (a3.1 + 1)))] [1,0] ?_))))
   exact oe (ct cf () [5,0,1] [0] 0)
  refine qx (nx (nx (bh ?_)))
  have ch:=leafB bf bi ap
  exact mp ((a3.2.1,a3.2.2),()) ch [0,1] [0] 0
 have ci:=(congrFun bc _).symm.trans bd
 refine nt (qs (qr (oN 2 [(4,vi a8.1.2)] [0] ?_)))
 refine oe (nt (qe (rt [.int .i64 a8.1.2] (fun _ w hs=>?_))))
 rw [← sI ci]
 exact hs.turned (is:=[0]) rfl
theorem c_laws_markBook {W : World} {x0 : Book} {a0_0 : Option Addr} {c0_0 : Nat} {e0_0 : TypeId} {x1 : Int} {r : Int × (List Rule)} (h : laws_markBook x0 x1 = some r)  :
  GivesM Tryz.prog 68 #[vBook x0 (a0_0,c0_0),.int .i64 x1] W [SlRes e0_0 x0.Rules a0_0 c0_0] [SlRes e0_0 r.2 a0_0 c0_0] (.int .i64 r.1):=by
 unfold laws_markBook at h
 refine enM Tryz.func68 Tryz.ntmps68 (fun Fs=>?_)
 refine qs (qr (oB 2 [(2,.p 0 0)] [0,1] [(42,(eBook x0 (a0_0,c0_0)))] ?_))
 refine oe (nt (qs (qr (oN 3 [(7,vi x1),(6,vs a0_0 x0.Rules c0_0)] [0] ?_))))
 obtain ⟨a3,a5,a6⟩:=bS h
 obtain ⟨a9,a7,a8⟩:=bS a6
 have a4:=(sameLen_some a7).symm
 refine JO_callM rfl (by kernel_rfl) (f:=114) (args:=#[.slice a0_0 x0.Rules.length c0_0,.int .i64 x1]) (by kernel_rfl) (x:=.int .i64 a3.1) (Rin:=[SlRes e0_0 x0.Rules a0_0 c0_0]) (Rout:=[SlRes e0_0 a3.2 a0_0 c0_0]) (Rr:=[]) rfl (fun w=>(by have vv:=c_laws_markRuleS (e0_0:=e0_0) (a0_0:=a0_0) (c0_0:=c0_0) (W:=w) a5; exact vv)) (sl':=[(8,vi a3.1),(7,vi x1),(6,vs a0_0 x0.Rules c0_0),(0,.v (vBook x0 (a0_0,c0_0)))]) (by kernel_rfl) ?_
 refine JO_eqE (sl':=[(8,vi a3.1),(7,vi x1),(6,vs a0_0 a3.2 c0_0),(0,.v (vBook (Book.mk a3.2) (a0_0,c0_0)))]) (bx':=[(42,[.slice a0_0 a3.2.length c0_0])]) (by simp only [vs,sv,eBook,vBook,a4]) (by simp only [vs,sv,eBook,vBook,a4]) ?_
 refine oN 1 [(1,vi a3.1)] [0] ?_
 refine oe (nt (qs (qr (oN 2 [(4,vi a3.1)] [0] ?_))))
 refine oe (nt (qe (rt [.int .i64 a3.1] (fun _ w hs=>?_))))
 rw [← sI a8]
 exact hs.turned (is:=[0]) rfl
theorem c_laws_markFactS {W : World} {x0 : List Fact} {a0_0 : Option Addr} {c0_0 : Nat} {e0_0 : TypeId} {x1 : Int} {r : Int × (List Fact)} (h : laws_markFactS x0 x1 = some r)  :
  GivesM Tryz.prog 115 #[.slice a0_0 x0.length c0_0,.int .i64 x1] W [SlRes e0_0 x0 a0_0 c0_0] [SlRes e0_0 r.2 a0_0 c0_0] (.int .i64 r.1):=by
 unfold laws_markFactS at h
 refine enM Tryz.func115 Tryz.ntmps115 (fun Fs=>?_)
 refine qs (qr (oN 1 [] [0,1] ?_))
 refine oe (nt (qs (qs (qr (oN 1 [(5,vi 0)] [0,1] ?_)))))
 refine oe (nt ?_)
 obtain ⟨bp,ar,ag⟩:=bS h
 obtain ⟨au,av,ag⟩:=brkS ag
 refine JC_cutP (τ:=((List Fact) × Int) × (Unit)) (fun y=>au y.1 = some r) (fun a4=>[(0,vs a0_0 a4.1.1 c0_0),(1,vi a4.1.2)]) (fun a4=>[]) (fun a4=>[SlRes e0_0 a4.1.1 a0_0 c0_0]) ?_ (fun a4 aw=>?_)
 ·refine qb (lp Unit ar (fun a3 ah=>[(5,vi a3.1),(0,vs a0_0 a3.2.1 c0_0),(1,vi a3.2.2)]) (fun a3 ah=>[]) (fun a3 ah=>[SlRes e0_0 a3.2.1 a0_0 c0_0]) () [5,0,1] [0] 0 (fun a3 ah bq ax ay=>?_))
  refine qs (qs (qr (oN 4 [(9,vb (decide (a3.1 < (a3.2.1.length : Int))))] [5,0,1] ?_)))
  refine oe (nt (cC ax (fun az=>?_) (fun b4=>?_)))
  ·refine qk (nt (qs (qb (qs (qr (oN 3 [(14,vi a3.2.2),(13,vi a3.1),(12,vs a0_0 a3.2.1 c0_0)] [5,0,1] ?_))))))
   obtain ⟨a5,am,b5⟩:=bS az
   refine oi 5 (fun _ w hs=>(hs.view 0 rfl)) am ?_
   refine oN 1 [(16,.q a0_0 (Int.toNat a3.1 * 5))] [14,5,0,1] ?_
   obtain ⟨ai,a6,b6⟩:=bS b5
   replace a6:=(sI a6).symm
   refine JO_storeq (α:=Fact) (d:=a0_0) (vs:=[.int .i64 a3.2.2]) (j:=a3.1) (x':=(Fact.mk a3.2.2 a5.From a5.To a5.Known a5.Value)) rfl (by kernel_rfl) 0 (by kernel_rfl) am (Rc:=[]) (Rr:=[]) rfl (by kernel_rfl) (fun w c F Fs ho _ _=>own_flat_set (by kernel_rfl) ho) a6 rfl ?_
   have b7:=len_set a6
   refine JO_keep [14,5,0,1] (sl':=[(14,vi a3.2.2),(5,vi a3.1),(0,vs a0_0 a3.2.1 c0_0),(1,vi a3.2.2)]) (by kernel_rfl) ?_
   refine JO_eqE (sl':=[(14,vi a3.2.2),(5,vi a3.1),(0,vs a0_0 ai c0_0),(1,vi a3.2.2)]) (bx':=[]) (by simp only [vs,sv,b7]) rfl ?_
   refine oe (nt (qs (qr (oN 3 [(1,vi (w64 (a3.2.2 + 1)))] [5,0] ?_))))
   refine oe (nt (qs (qr (oN 3 [(21,vi (w64 (a3.2.2 + 1))),(20,vi a3.1),(19,vs a0_0 ai c0_0)] [1,5,0] ?_))))
   obtain ⟨a7,an,b8⟩:=bS b6
   refine oi 5 (fun _ w hs=>(hs.view 0 rfl)) an ?_
   refine oN 1 [(23,.q a0_0 (Int.toNat a3.1 * 5 + 1))] [21,1,5,0] ?_
   obtain ⟨aj,a8,b9⟩:=bS b8
   replace a8:=(sI a8).symm
   refine JO_storeq (α:=Fact) (d:=a0_0) (vs:=[.int .i64 (w64 (a3.2.2 + 1))]) (j:=a3.1) (x':=(Fact.mk a7.Key (w64 (a3.2.2 + 1)) a7.To a7.Known a7.Value)) rfl (by kernel_rfl) 1 (by kernel_rfl) an (Rc:=[]) (Rr:=[]) rfl (by kernel_rfl) (fun w c F Fs ho _ _=>own_flat_set (by kernel_rfl) ho) a8 rfl ?_
   have ba:=len_set a8
   refine JO_keep [21,1,5,0] (sl':=[(21,vi (w64 (a3.2.2 + 1))),(1,vi (w64 (a3.2.2 + 1))),(5,vi a3.1),(0,vs a0_0 ai c0_0)]) (by kernel_rfl) ?_
   refine JO_eqE (sl':=[(21,vi (w64 (a3.2.2 + 1))),(1,vi (w64 (a3.2.2 + 1))),(5,vi a3.1),(0,vs a0_0 aj c0_0)]) (bx':=[]) (by simp only [vs,sv,ba]) rfl ?_
   refine oe (nt (qs (qr (oN 3 [(1,vi (w64 ((w64 (a3.2.2 + 1)) + 1)))] [5,0] ?_))))
   refine oe (nt (qs (qr (oN 3 [(28,vi (w64 ((w64 (a3.2.2 + 1)) + 1))),(27,vi a3.1),(26,vs a0_0 aj c0_0)] [1,5,0] ?_))))
   obtain ⟨a9,ao,bb⟩:=bS b9
   refine oi 5 (fun _ w hs=>(hs.view 0 rfl)) ao ?_
   refine oN 1 [(30,.q a0_0 (Int.toNat a3.1 * 5 + 2))] [28,1,5,0] ?_
   obtain ⟨ak,aa,bc⟩:=bS bb
   replace aa:=(sI aa).symm
   refine JO_storeq (α:=Fact) (d:=a0_0) (vs:=[.int .i64 (w64 ((w64 (a3.2.2 + 1)) + 1))]) (j:=a3.1) (x':=(Fact.mk a9.Key a9.From (w64 ((w64 (a3.2.2 + 1)) + 1)) a9.Known a9.Value)) rfl (by kernel_rfl) 2 (by kernel_rfl) ao (Rc:=[]) (Rr:=[]) rfl (by kernel_rfl) (fun w c F Fs ho _ _=>own_flat_set (by kernel_rfl) ho) aa rfl ?_
   have bd:=len_set aa
   refine JO_keep [28,1,5,0] (sl':=[(28,vi (w64 ((w64 (a3.2.2 + 1)) + 1))),(1,vi (w64 ((w64 (a3.2.2 + 1)) + 1))),(5,vi a3.1),(0,vs a0_0 aj c0_0)]) (by kernel_rfl) ?_
   refine JO_eqE (sl':=[(28,vi (w64 ((w64 (a3.2.2 + 1)) + 1))),(1,vi (w64 ((w64 (a3.2.2 + 1)) + 1))),(5,vi a3.1),(0,vs a0_0 ak c0_0)]) (bx':=[]) (by simp only [vs,sv,bd]) rfl ?_
   refine oe (nt (qs (qr (oN 3 [(1,vi (w64 ((w64 ((w64 (a3.2.2 + 1)) + 1)) + 1)))] [5,0] ?_))))
   refine oe (nt (qs (qr (oN 3 [(35,vi (w64 ((w64 ((w64 (a3.2.2 + 1)) + 1)) + 1))),(34,vi a3.1),(33,vs a0_0 ak c0_0)] [1,5,0] ?_))))
   obtain ⟨ab,ap,be⟩:=bS bc
   refine oi 5 (fun _ w hs=>(hs.view 0 rfl)) ap ?_
   refine oN 1 [(37,.q a0_0 (Int.toNat a3.1 * 5 + 3))] [35,1,5,0] ?_
   obtain ⟨al,ac,bf⟩:=bS be
   replace ac:=(sI ac).symm
   refine JO_storeq (α:=Fact) (d:=a0_0) (vs:=[.int .i64 (w64 ((w64 ((w64 (a3.2.2 + 1)) + 1)) + 1))]) (j:=a3.1) (x':=(Fact.mk ab.Key ab.From ab.To (w64 ((w64 ((w64 (a3.2.2 + 1)) + 1)) + 1)) ab.Value)) rfl (by kernel_rfl) 3 (by kernel_rfl) ap (Rc:=[]) (Rr:=[]) rfl (by kernel_rfl) (fun w c F Fs ho _ _=>own_flat_set (by kernel_rfl) ho) ac rfl ?_
   have bg:=len_set ac
   refine JO_keep [35,1,5,0] (sl':=[(35,vi (w64 ((w64 ((w64 (a3.2.2 + 1)) + 1)) + 1))),(1,vi (w64 ((w64 ((w64 (a3.2.2 + 1)) + 1)) + 1))),(5,vi a3.1),(0,vs a0_0 ak c0_0)]) (by kernel_rfl) ?_
   refine JO_eqE (sl':=[(35,vi (w64 ((w64 ((w64 (a3.2.2 + 1)) + 1)) + 1))),(1,vi (w64 ((w64 ((w64 (a3.2.2 + 1)) + 1)) + 1))),(5,vi a3.1),(0,vs a0_0 al c0_0)]) (bx':=[]) (by simp only [vs,sv,bg]) rfl ?_
   refine oe (nt (qs (qr (oN 3 [(1,vi (w64 ((w64 ((w64 ((w64 (a3.2.2 + 1)) + 1)) + 1)) + 1)))] [5,0] ?_))))
   refine oe (nt (qs (qr (oN 3 [(42,vi (w64 ((w64 ((w64 ((w64 (a3.2.2 + 1)) + 1)) + 1)) + 1))),(41,vi a3.1),(40,vs a0_0 al c0_0)] [1,5,0] ?_))))
   obtain ⟨ae,aq,bi⟩:=bS bf
   refine oi 5 (fun _ w hs=>(hs.view 0 rfl)) aq ?_
   refine oN 1 [(44,.q a0_0 (Int.toNat a3.1 * 5 + 4))] [42,1,5,0] ?_
   obtain ⟨bj,af,bk⟩:=bS bi
   replace af:=(sI af).symm
   refine JO_storeq (α:=Fact) (d:=a0_0) (vs:=[.int .i64 (w64 ((w64 ((w64 ((w64 (a3.2.2 + 1)) + 1)) + 1)) + 1))]) (j:=a3.1) (x':=(Fact.mk ae.Key ae.From ae.To ae.Known (w64 ((w64 ((w64 ((w64 (a3.2.2 + 1)) + 1)) + 1)) + 1)))) rfl (by kernel_rfl) 4 (by kernel_rfl) aq (Rc:=[]) (Rr:=[]) rfl (by kernel_rfl) (fun w c F Fs ho _ _=>own_flat_set (by kernel_rfl) ho) af rfl ?_
   have bl:=len_set af
   refine JO_keep [42,1,5,0] (sl':=[(42,vi (w64 ((w64 ((w64 ((w64 (a3.2.2 + 1)) + 1)) + 1)) + 1))),(1,vi (w64 ((w64 ((w64 ((w64 (a3.2.2 + 1)) + 1)) + 1)) + 1))),(5,vi a3.1),(0,vs a0_0 al c0_0)]) (by kernel_rfl) ?_
   refine JO_eqE (sl':=[(42,vi (w64 ((w64 ((w64 ((w64 (a3.2.2 + 1)) + 1)) + 1)) + 1))),(1,vi (w64 ((w64 ((w64 ((w64 (a3.2.2 + 1)) + 1)) + 1)) + 1))),(5,vi a3.1),(0,vs a0_0 bj c0_0)]) (bx':=[]) (by simp only [vs,sv,bl]) rfl ?_
   refine oe (nt (qr (oN 3 [(1,vi (w64 ((w64 ((w64 ((w64 ((w64 (a3.2.2 + 1)) + 1)) + 1)) + 1)) + 1)))] [5,0] ?_)))
   refine oe (bn (nt (qr (oN 3 [(5,vi (w64 (a3.1 + 1)))] [1,0] ?_))))
   exact oe (ct bk () [5,0,1] [0] 0)
  refine qx (nx (nx (bh ?_)))
  have bm:=leafB ay b4 ag
  exact mp ((a3.2.1,a3.2.2),()) bm [0,1] [0] 0
 have bo:=(congrFun av _).symm.trans aw
 refine nt (qs (qr (oN 2 [(4,vi a4.1.2)] [0] ?_)))
 refine oe (nt (qe (rt [.int .i64 a4.1.2] (fun _ w hs=>?_))))
 rw [← sI bo]
 exact hs.turned (is:=[0]) rfl
theorem c_laws_markStore {W : World} {x0 : Store} {a0_0 : Option Addr} {c0_0 : Nat} {e0_0 : TypeId} {x1 : Int} {r : Int × (List Fact)} (h : laws_markStore x0 x1 = some r)  :
  GivesM Tryz.prog 69 #[vStore x0 (a0_0,c0_0),.int .i64 x1] W [SlRes e0_0 x0.Facts a0_0 c0_0] [SlRes e0_0 r.2 a0_0 c0_0] (.int .i64 r.1):=by
 unfold laws_markStore at h
 refine enM Tryz.func69 Tryz.ntmps69 (fun Fs=>?_)
 refine qs (qr (oB 2 [(2,.p 0 0)] [0,1] [(45,(eStore x0 (a0_0,c0_0)))] ?_))
 refine oe (nt (qs (qr (oN 3 [(7,vi x1),(6,vs a0_0 x0.Facts c0_0)] [0] ?_))))
 obtain ⟨a3,a5,a6⟩:=bS h
 obtain ⟨a9,a7,a8⟩:=bS a6
 have a4:=(sameLen_some a7).symm
 refine JO_callM rfl (by kernel_rfl) (f:=115) (args:=#[.slice a0_0 x0.Facts.length c0_0,.int .i64 x1]) (by kernel_rfl) (x:=.int .i64 a3.1) (Rin:=[SlRes e0_0 x0.Facts a0_0 c0_0]) (Rout:=[SlRes e0_0 a3.2 a0_0 c0_0]) (Rr:=[]) rfl (fun w=>(by have vv:=c_laws_markFactS (e0_0:=e0_0) (a0_0:=a0_0) (c0_0:=c0_0) (W:=w) a5; exact vv)) (sl':=[(8,vi a3.1),(7,vi x1),(6,vs a0_0 x0.Facts c0_0),(0,.v (vStore x0 (a0_0,c0_0)))]) (by kernel_rfl) ?_
 refine JO_eqE (sl':=[(8,vi a3.1),(7,vi x1),(6,vs a0_0 a3.2 c0_0),(0,.v (vStore (Store.mk a3.2) (a0_0,c0_0)))]) (bx':=[(45,[.slice a0_0 a3.2.length c0_0])]) (by simp only [vs,sv,eStore,vStore,a4]) (by simp only [vs,sv,eStore,vStore,a4]) ?_
 refine oN 1 [(1,vi a3.1)] [0] ?_
 refine oe (nt (qs (qr (oN 2 [(4,vi a3.1)] [0] ?_))))
 refine oe (nt (qe (rt [.int .i64 a3.1] (fun _ w hs=>?_))))
 rw [← sI a8]
 exact hs.turned (is:=[0]) rfl
theorem c_laws_markPointS {W : World} {x0 : List Point} {a0_0 : Option Addr} {c0_0 : Nat} {e0_0 : TypeId} {x1 : Int} {r : Int × (List Point)} (h : laws_markPointS x0 x1 = some r)  :
  GivesM Tryz.prog 116 #[.slice a0_0 x0.length c0_0,.int .i64 x1] W [SlRes e0_0 x0 a0_0 c0_0] [SlRes e0_0 r.2 a0_0 c0_0] (.int .i64 r.1):=by
 unfold laws_markPointS at h
 refine enM Tryz.func116 Tryz.ntmps116 (fun Fs=>?_)
 refine qs (qr (oN 1 [] [0,1] ?_))
 refine oe (nt (qs (qs (qr (oN 1 [(5,vi 0)] [0,1] ?_)))))
 refine oe (nt ?_)
 obtain ⟨b9,aj,a8⟩:=bS h
 obtain ⟨ak,al,a8⟩:=brkS a8
 refine JC_cutP (τ:=((List Point) × Int) × (Unit)) (fun y=>ak y.1 = some r) (fun a4=>[(0,vs a0_0 a4.1.1 c0_0),(1,vi a4.1.2)]) (fun a4=>[]) (fun a4=>[SlRes e0_0 a4.1.1 a0_0 c0_0]) ?_ (fun a4 am=>?_)
 ·refine qb (lp Unit aj (fun a3 a9=>[(5,vi a3.1),(0,vs a0_0 a3.2.1 c0_0),(1,vi a3.2.2)]) (fun a3 a9=>[]) (fun a3 a9=>[SlRes e0_0 a3.2.1 a0_0 c0_0]) () [5,0,1] [0] 0 (fun a3 a9 ba an ao=>?_))
  refine qs (qs (qr (oN 4 [(9,vb (decide (a3.1 < (a3.2.1.length : Int))))] [5,0,1] ?_)))
  refine oe (nt (cC an (fun ap=>?_) (fun aq=>?_)))
  ·refine qk (nt (qs (qb (qs (qr (oN 3 [(14,vi a3.2.2),(13,vi a3.1),(12,vs a0_0 a3.2.1 c0_0)] [5,0,1] ?_))))))
   obtain ⟨ac,ae,ar⟩:=bS ap
   refine oi 3 (fun _ w hs=>(hs.view 0 rfl)) ae ?_
   refine oN 1 [(16,.q a0_0 (Int.toNat a3.1 * 3))] [14,5,0,1] ?_
   obtain ⟨aa,a5,au⟩:=bS ar
   replace a5:=(sI a5).symm
   refine JO_storeq (α:=Point) (d:=a0_0) (vs:=[.int .i64 a3.2.2]) (j:=a3.1) (x':=(Point.mk a3.2.2 ac.Known ac.Value)) rfl (by kernel_rfl) 0 (by kernel_rfl) ae (Rc:=[]) (Rr:=[]) rfl (by kernel_rfl) (fun w c F Fs ho _ _=>own_flat_set (by kernel_rfl) ho) a5 rfl ?_
   have av:=len_set a5
   refine JO_keep [14,5,0,1] (sl':=[(14,vi a3.2.2),(5,vi a3.1),(0,vs a0_0 a3.2.1 c0_0),(1,vi a3.2.2)]) (by kernel_rfl) ?_
   refine JO_eqE (sl':=[(14,vi a3.2.2),(5,vi a3.1),(0,vs a0_0 aa c0_0),(1,vi a3.2.2)]) (bx':=[]) (by simp only [vs,sv,av]) rfl ?_
   refine oe (nt (qs (qr (oN 3 [(1,vi (w64 (a3.2.2 + 1)))] [5,0] ?_))))
   refine oe (nt (qs (qr (oN 3 [(21,vi (w64 (a3.2.2 + 1))),(20,vi a3.1),(19,vs a0_0 aa c0_0)] [1,5,0] ?_))))
   obtain ⟨af,ag,aw⟩:=bS au
   refine oi 3 (fun _ w hs=>(hs.view 0 rfl)) ag ?_
   refine oN 1 [(23,.q a0_0 (Int.toNat a3.1 * 3 + 1))] [21,1,5,0] ?_
   obtain ⟨ab,a6,ax⟩:=bS aw
   replace a6:=(sI a6).symm
   refine JO_storeq (α:=Point) (d:=a0_0) (vs:=[.int .i64 (w64 (a3.2.2 + 1))]) (j:=a3.1) (x':=(Point.mk af.Month (w64 (a3.2.2 + 1)) af.Value)) rfl (by kernel_rfl) 1 (by kernel_rfl) ag (Rc:=[]) (Rr:=[]) rfl (by kernel_rfl) (fun w c F Fs ho _ _=>own_flat_set (by kernel_rfl) ho) a6 rfl ?_
   have ay:=len_set a6
   refine JO_keep [21,1,5,0] (sl':=[(21,vi (w64 (a3.2.2 + 1))),(1,vi (w64 (a3.2.2 + 1))),(5,vi a3.1),(0,vs a0_0 aa c0_0)]) (by kernel_rfl) ?_
   refine JO_eqE (sl':=[(21,vi (w64 (a3.2.2 + 1))),(1,vi (w64 (a3.2.2 + 1))),(5,vi a3.1),(0,vs a0_0 ab c0_0)]) (bx':=[]) (by simp only [vs,sv,ay]) rfl ?_
   refine oe (nt (qs (qr (oN 3 [(1,vi (w64 ((w64 (a3.2.2 + 1)) + 1)))] [5,0] ?_))))
   refine oe (nt (qs (qr (oN 3 [(28,vi (w64 ((w64 (a3.2.2 + 1)) + 1))),(27,vi a3.1),(26,vs a0_0 ab c0_0)] [1,5,0] ?_))))
   obtain ⟨ah,ai,az⟩:=bS ax
   refine oi 3 (fun _ w hs=>(hs.view 0 rfl)) ai ?_
   refine oN 1 [(30,.q a0_0 (Int.toNat a3.1 * 3 + 2))] [28,1,5,0] ?_
   obtain ⟨b4,a7,b5⟩:=bS az
   replace a7:=(sI a7).symm
   refine JO_storeq (α:=Point) (d:=a0_0) (vs:=[.int .i64 (w64 ((w64 (a3.2.2 + 1)) + 1))]) (j:=a3.1) (x':=(Point.mk ah.Month ah.Known (w64 ((w64 (a3.2.2 + 1)) + 1)))) rfl (by kernel_rfl) 2 (by kernel_rfl) ai (Rc:=[]) (Rr:=[]) rfl (by kernel_rfl) (fun w c F Fs ho _ _=>own_flat_set (by kernel_rfl) ho) a7 rfl ?_
   have b6:=len_set a7
   refine JO_keep [28,1,5,0] (sl':=[(28,vi (w64 ((w64 (a3.2.2 + 1)) + 1))),(1,vi (w64 ((w64 (a3.2.2 + 1)) + 1))),(5,vi a3.1),(0,vs a0_0 ab c0_0)]) (by kernel_rfl) ?_
   refine JO_eqE (sl':=[(28,vi (w64 ((w64 (a3.2.2 + 1)) + 1))),(1,vi (w64 ((w64 (a3.2.2 + 1)) + 1))),(5,vi a3.1),(0,vs a0_0 b4 c0_0)]) (bx':=[]) (by simp only [vs,sv,b6]) rfl ?_
   refine oe (nt (qr (oN 3 [(1,vi (w64 ((w64 ((w64 (a3.2.2 + 1)) + 1)) + 1)))] [5,0] ?_)))
   refine oe (bn (nt (qr (oN 3 [(5,vi (w64 (a3.1 + 1)))] [1,0] ?_))))
   exact oe (ct b5 () [5,0,1] [0] 0)
  refine qx (nx (nx (bh ?_)))
  have b7:=leafB ao aq a8
  exact mp ((a3.2.1,a3.2.2),()) b7 [0,1] [0] 0
 have b8:=(congrFun al _).symm.trans am
 refine nt (qs (qr (oN 2 [(4,vi a4.1.2)] [0] ?_)))
 refine oe (nt (qe (rt [.int .i64 a4.1.2] (fun _ w hs=>?_))))
 rw [← sI b8]
 exact hs.turned (is:=[0]) rfl
theorem c_laws_markSeries {W : World} {x0 : Series} {a0_0 : Option Addr} {c0_0 : Nat} {e0_0 : TypeId} {x1 : Int} {r : Int × (List Point)} (h : laws_markSeries x0 x1 = some r)  :
  GivesM Tryz.prog 70 #[vSeries x0 (a0_0,c0_0),.int .i64 x1] W [SlRes e0_0 x0.Points a0_0 c0_0] [SlRes e0_0 r.2 a0_0 c0_0] (.int .i64 r.1):=by
 unfold laws_markSeries at h
 refine enM Tryz.func70 Tryz.ntmps70 (fun Fs=>?_)
 refine qs (qr (oB 2 [(2,.p 0 0)] [0,1] [(48,(eSeries x0 (a0_0,c0_0)))] ?_))
 refine oe (nt (qs (qr (oN 3 [(7,vi x1),(6,vs a0_0 x0.Points c0_0)] [0] ?_))))
 obtain ⟨a3,a5,a6⟩:=bS h
 obtain ⟨a9,a7,a8⟩:=bS a6
 have a4:=(sameLen_some a7).symm
 refine JO_callM rfl (by kernel_rfl) (f:=116) (args:=#[.slice a0_0 x0.Points.length c0_0,.int .i64 x1]) (by kernel_rfl) (x:=.int .i64 a3.1) (Rin:=[SlRes e0_0 x0.Points a0_0 c0_0]) (Rout:=[SlRes e0_0 a3.2 a0_0 c0_0]) (Rr:=[]) rfl (fun w=>(by have vv:=c_laws_markPointS (e0_0:=e0_0) (a0_0:=a0_0) (c0_0:=c0_0) (W:=w) a5; exact vv)) (sl':=[(8,vi a3.1),(7,vi x1),(6,vs a0_0 x0.Points c0_0),(0,.v (vSeries x0 (a0_0,c0_0)))]) (by kernel_rfl) ?_
 refine JO_eqE (sl':=[(8,vi a3.1),(7,vi x1),(6,vs a0_0 a3.2 c0_0),(0,.v (.agg #[.slice a0_0 a3.2.length c0_0]))]) (bx':=[(48,[.slice a0_0 a3.2.length c0_0])]) (by simp only [vs,sv,eSeries,vSeries,a4]) (by simp only [vs,sv,eSeries,vSeries,a4]) ?_
 refine oN 1 [(1,vi a3.1)] [0] ?_
 refine oe (nt (qs (qr (oN 2 [(4,vi a3.1)] [0] ?_))))
 refine oe (nt (qe (rt [.int .i64 a3.1] (fun _ w hs=>?_))))
 rw [← sI a8]
 exact hs.turned (is:=[0]) rfl
end Go.Pen
