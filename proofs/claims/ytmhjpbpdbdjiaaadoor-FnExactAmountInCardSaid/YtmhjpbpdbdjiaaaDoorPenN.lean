/-
  What the library's functions promise at this dump: the kit's contracts, laid; and the variables that they read.
-/
import Derived.Shelf.Strconv.Atoi
import Derived.Shelf.Strconv.AtoiErr
import Derived.Shelf.Strconv.Itoa3
import Derived.Shelf.Small.Wraps
import Derived.Stop.LaidErr
import Derived.Lib.LaidTab
import Derived.Lib.SmallJoins
import Derived.Lib.AppendIntMem
import Derived.WalkKit
import Derived.BigCall
import Derived.Test.YtmhjpbpdbdjiaaaDoorProg
import Derived.Test.YtmhjpbpdbdjiaaaDoorPenE
import Derived.Test.YtmhjpbpdbdjiaaaDoorPenZ
namespace Go.Proofs
open Go.Shelf Go.RowKit

theorem Tryd.atoi_some (s : ByteArray) (n : Int) (hl : s.size ≤ 18) (h : Lib.atoi s.data.toList = some n) (w : World) :
    Calls Tryd.prog 14 #[.string s] w fun e w' => e = .returned (.tuple #[.int .i64 n, .nilIface]) ∧ Below w.heap.size w w' :=
  (Any.strconv_Atoi { Tryd.laysC172 with } s n hl h w).mono fun e w' ⟨he, t, hw⟩ => ⟨he, by subst hw; exact Lib.bytesWorld_below _ _ _⟩

theorem Tryd.gES : Tryd.prog.globalNamed "strconv.ErrSyntax" = some 0 := by kernel_rfl

theorem Tryd.atoi_none (s : ByteArray) (hl : s.size ≤ 18) (h : Lib.atoi s.data.toList = none) (w : World) (hv : ∃ te pe, w.cell? ⟨0, 0, none⟩ = some (.iface te pe)) :
    Calls Tryd.prog 14 #[.string s] w fun e w' => (∃ te pe, e = .returned (.tuple #[.int .i64 0, .iface te pe])) ∧ Below w.heap.size w w' := by
  obtain ⟨te, pe, hv⟩ := hv
  exact (Any.strconv_Atoi_err Tryd.laysC172 s hl h _ w hv (.inr ⟨te, pe, rfl⟩)).mono fun e w' ⟨M, he, _, _, hb⟩ => ⟨⟨_, _, he⟩, hb⟩

theorem Tryd.itoa (n : Int) (h0 : -9223372036854775808 ≤ n) (h1 : n ≤ 9223372036854775807) (w : World) (htab : Lib.TabIs Tryd.prog w "internal/strconv.uint64pow10" .u64 Lib.pow10Tab) :
    Calls Tryd.prog 21 #[.int .i64 n] w fun e w' => e = .returned (.string ⟨(Lib.itoa n).toArray⟩) ∧ Below w.heap.size w w' :=
  (Any.strconv_Itoa Tryd.laysM171 n h0 h1 w htab).mono fun e w' ⟨he, k, os, hw⟩ => ⟨he, by subst hw; exact Lib.below_grow _ _ (Nat.le_refl _) _ _⟩

theorem Tryd.cutPrefix (s p : ByteArray) (w : World) :
    Calls Tryd.prog 10 #[.string s, .string p] w fun e w' => e = .returned (.tuple #[.string ⟨(Lib.trimPrefix s.data.toList p.data.toList).toArray⟩, .bool (Lib.hasPrefix s.data.toList p.data.toList)]) ∧ Below w.heap.size w w' :=
  (Any.strings_CutPrefix Tryd.lays103 s p w).mono fun e w' ⟨he, hw⟩ => ⟨he, by subst hw; exact Below.refl _ _⟩
end Go.Proofs
namespace Go.Pen
open Go.Proofs Go.RowKit

/-- The library's variables, laid. -/
structure VarsAt (w : World) : Prop where
  es : ∃ te pe, w.cell? ⟨0, 0, none⟩ = some (.iface te pe)
  tab : Lib.TabIs Tryd.prog w "internal/strconv.uint64pow10" .u64 Lib.pow10Tab

theorem gTab : Tryd.prog.globalNamed "internal/strconv.uint64pow10" = some 2 := by kernel_rfl

theorem VarsAt.below {w w' : World} (h : VarsAt w) (hb : Below w.heap.size w w') : VarsAt w' := by
  obtain ⟨⟨te, pe, h1⟩, h2⟩ := h
  exact ⟨⟨te, pe, (hb.cell (show (⟨0, 0, none⟩ : Addr).block < w.heap.size from Lib.lt_of_cell h1)).trans h1⟩, Go.Joins.tab_stays gTab h2 hb (Nat.le_refl _)⟩

theorem VarsAt.kept {w w' : World} (h : VarsAt w) (hk : Kept (fun _ => False) w w') : VarsAt w' := h.below ⟨hk.os, hk.tape, hk.output, hk.size, fun k h1 => hk.block k h1 (fun x => x)⟩
end Go.Pen
