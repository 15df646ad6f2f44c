/-
  The data of the program.
-/
import Derived.Test.YtmhjpbpdbdjiaaaDoorPenE
namespace Go.Pen
set_option linter.unusedVariables false

abbrev AC := Option Addr × Nat
@[reducible] def vi (x : Int) : SV := .v (.int .i64 x)
@[reducible] def vb (x : Bool) : SV := .v (.bool x)

structure Frac where
  Num : Int
  Den : Int
instance : Wf Frac := ⟨fun x => Wf.wf x.Num ∧ Wf.wf x.Den⟩
instance : Flat Frac := ⟨2, by decide, fun x => [.int .i64 x.Num, .int .i64 x.Den], fun _ => rfl, fun x c hc => by simp only [List.mem_cons, List.not_mem_nil, or_false] at hc; rcases hc with rfl | rfl <;> rfl⟩
@[reducible] def eFrac (x : Frac) : List Value := [.int .i64 x.Num, .int .i64 x.Den]
@[reducible] def vFrac (x : Frac) : Value := .agg (eFrac x).toArray

structure Fact where
  Key : Int
  From : Int
  To : Int
  Known : Int
  Value : Int
instance : Wf Fact := ⟨fun x => Wf.wf x.Key ∧ Wf.wf x.From ∧ Wf.wf x.To ∧ Wf.wf x.Known ∧ Wf.wf x.Value⟩
instance : Flat Fact := ⟨5, by decide, fun x => [.int .i64 x.Key, .int .i64 x.From, .int .i64 x.To, .int .i64 x.Known, .int .i64 x.Value], fun _ => rfl, fun x c hc => by simp only [List.mem_cons, List.not_mem_nil, or_false] at hc; rcases hc with rfl | rfl | rfl | rfl | rfl <;> rfl⟩
@[reducible] def eFact (x : Fact) : List Value := [.int .i64 x.Key, .int .i64 x.From, .int .i64 x.To, .int .i64 x.Known, .int .i64 x.Value]
@[reducible] def vFact (x : Fact) : Value := .agg (eFact x).toArray

structure Store where
  Facts : List Fact
instance : Wf Store := ⟨fun x => Wf.wf x.Facts⟩
@[reducible] def eStore (x : Store) (y : AC) : List Value := [.slice y.1 x.Facts.length y.2]
@[reducible] def vStore (x : Store) (y : AC) : Value := .agg (eStore x y).toArray

structure Segment where
  From : Int
  To : Int
  Value : Int
instance : Wf Segment := ⟨fun x => Wf.wf x.From ∧ Wf.wf x.To ∧ Wf.wf x.Value⟩
instance : Flat Segment := ⟨3, by decide, fun x => [.int .i64 x.From, .int .i64 x.To, .int .i64 x.Value], fun _ => rfl, fun x c hc => by simp only [List.mem_cons, List.not_mem_nil, or_false] at hc; rcases hc with rfl | rfl | rfl <;> rfl⟩
@[reducible] def eSegment (x : Segment) : List Value := [.int .i64 x.From, .int .i64 x.To, .int .i64 x.Value]
@[reducible] def vSegment (x : Segment) : Value := .agg (eSegment x).toArray

structure Point where
  Month : Int
  Known : Int
  Value : Int
instance : Wf Point := ⟨fun x => Wf.wf x.Month ∧ Wf.wf x.Known ∧ Wf.wf x.Value⟩
instance : Flat Point := ⟨3, by decide, fun x => [.int .i64 x.Month, .int .i64 x.Known, .int .i64 x.Value], fun _ => rfl, fun x c hc => by simp only [List.mem_cons, List.not_mem_nil, or_false] at hc; rcases hc with rfl | rfl | rfl <;> rfl⟩
@[reducible] def ePoint (x : Point) : List Value := [.int .i64 x.Month, .int .i64 x.Known, .int .i64 x.Value]
@[reducible] def vPoint (x : Point) : Value := .agg (ePoint x).toArray

structure Series where
  Points : List Point
instance : Wf Series := ⟨fun x => Wf.wf x.Points⟩
@[reducible] def eSeries (x : Series) (y : AC) : List Value := [.slice y.1 x.Points.length y.2]
@[reducible] def vSeries (x : Series) (y : AC) : Value := .agg (eSeries x y).toArray

structure Node where
  Kind : Int
  A : Int
  B : Int
  C : Int
  Value : Frac
instance : Wf Node := ⟨fun x => Wf.wf x.Kind ∧ Wf.wf x.A ∧ Wf.wf x.B ∧ Wf.wf x.C ∧ Wf.wf x.Value⟩
instance : Flat Node := ⟨6, by decide, fun x => [.int .i64 x.Kind, .int .i64 x.A, .int .i64 x.B, .int .i64 x.C, .int .i64 x.Value.Num, .int .i64 x.Value.Den], fun _ => rfl, fun x c hc => by simp only [List.mem_cons, List.not_mem_nil, or_false] at hc; rcases hc with rfl | rfl | rfl | rfl | rfl | rfl <;> rfl⟩
@[reducible] def eNode (x : Node) : List Value := [.int .i64 x.Kind, .int .i64 x.A, .int .i64 x.B, .int .i64 x.C, .int .i64 x.Value.Num, .int .i64 x.Value.Den]
@[reducible] def vNode (x : Node) : Value := .agg (eNode x).toArray

structure Rule where
  Name : Int
  From : Int
  To : Int
  Joined : Int
  Rank : Int
  Mode : Int
  Nodes : List Node
instance : Wf Rule := ⟨fun x => Wf.wf x.Name ∧ Wf.wf x.From ∧ Wf.wf x.To ∧ Wf.wf x.Joined ∧ Wf.wf x.Rank ∧ Wf.wf x.Mode ∧ Wf.wf x.Nodes⟩
instance : Rp Rule where
  sz := 7
  pos := by decide
  own w F x cs := ∃ (e0 : TypeId) (a0 : Option Addr) (c0 : Nat) (F0 : List Nat), F = F0 ∧ cs = [.int .i64 x.Name, .int .i64 x.From, .int .i64 x.To, .int .i64 x.Joined, .int .i64 x.Rank, .int .i64 x.Mode, .slice a0 x.Nodes.length c0] ∧ SlOwn e0 w F0 x.Nodes a0 c0
  view w x cs := ∃ (a0 : Option Addr) (c0 : Nat), cs = [.int .i64 x.Name, .int .i64 x.From, .int .i64 x.To, .int .i64 x.Joined, .int .i64 x.Rank, .int .i64 x.Mode, .slice a0 x.Nodes.length c0] ∧ SlView w x.Nodes a0 c0
  own_len := by rintro w F x cs ⟨e0, a0, c0, F0, rfl, rfl, h0⟩; rfl
  view_len := by rintro w x cs ⟨a0, c0, rfl, h0⟩; rfl
  own_one := by
    rintro w F x cs ⟨e0, a0, c0, F0, rfl, rfl, h0⟩ c hc
    simp only [List.mem_cons, List.not_mem_nil, or_false] at hc
    rcases hc with rfl | rfl | rfl | rfl | rfl | rfl | rfl <;> rfl
  own_stable := by
    rintro w w' F x cs ⟨e0, a0, c0, F0, rfl, rfl, h0⟩ hs
    exact ⟨e0, a0, c0, _, rfl, rfl, h0.stable (fun g hg => hs g (by simp [hg]))⟩
  own_lt := by
    rintro w F x cs ⟨e0, a0, c0, F0, rfl, rfl, h0⟩ g hg
    exact h0.lt g hg
  view_own := by
    rintro w F x cs ⟨e0, a0, c0, F0, rfl, rfl, h0⟩
    exact ⟨a0, c0, rfl, h0.view⟩
  view_stable := by
    rintro w w' x cs ⟨a0, c0, rfl, h0⟩ hs
    exact ⟨a0, c0, rfl, h0.stable hs⟩
@[reducible] def eRule (x : Rule) (y : AC) : List Value := [.int .i64 x.Name, .int .i64 x.From, .int .i64 x.To, .int .i64 x.Joined, .int .i64 x.Rank, .int .i64 x.Mode, .slice y.1 x.Nodes.length y.2]
@[reducible] def vRule (x : Rule) (y : AC) : Value := .agg (eRule x y).toArray

structure Book where
  Rules : List Rule
instance : Wf Book := ⟨fun x => Wf.wf x.Rules⟩
@[reducible] def eBook (x : Book) (y : AC) : List Value := [.slice y.1 x.Rules.length y.2]
@[reducible] def vBook (x : Book) (y : AC) : Value := .agg (eBook x y).toArray

structure Spell where
  From : Int
  To : Int
  Percent : Int
  Leave : Bool
instance : Wf Spell := ⟨fun x => Wf.wf x.From ∧ Wf.wf x.To ∧ Wf.wf x.Percent ∧ Wf.wf x.Leave⟩
instance : Flat Spell := ⟨4, by decide, fun x => [.int .i64 x.From, .int .i64 x.To, .int .i64 x.Percent, .bool x.Leave], fun _ => rfl, fun x c hc => by simp only [List.mem_cons, List.not_mem_nil, or_false] at hc; rcases hc with rfl | rfl | rfl | rfl <;> rfl⟩
@[reducible] def eSpell (x : Spell) : List Value := [.int .i64 x.From, .int .i64 x.To, .int .i64 x.Percent, .bool x.Leave]
@[reducible] def vSpell (x : Spell) : Value := .agg (eSpell x).toArray

structure Design where
  Kind : Int
  Rate : Int
  Cap : Int
instance : Wf Design := ⟨fun x => Wf.wf x.Kind ∧ Wf.wf x.Rate ∧ Wf.wf x.Cap⟩
instance : Flat Design := ⟨3, by decide, fun x => [.int .i64 x.Kind, .int .i64 x.Rate, .int .i64 x.Cap], fun _ => rfl, fun x c hc => by simp only [List.mem_cons, List.not_mem_nil, or_false] at hc; rcases hc with rfl | rfl | rfl <;> rfl⟩
@[reducible] def eDesign (x : Design) : List Value := [.int .i64 x.Kind, .int .i64 x.Rate, .int .i64 x.Cap]
@[reducible] def vDesign (x : Design) : Value := .agg (eDesign x).toArray

structure Table where
  First : Int
  Deaths : List Int
instance : Wf Table := ⟨fun x => Wf.wf x.First ∧ Wf.wf x.Deaths⟩
@[reducible] def eTable (x : Table) (y : AC) : List Value := [.int .i64 x.First, .slice y.1 x.Deaths.length y.2]
@[reducible] def vTable (x : Table) (y : AC) : Value := .agg (eTable x y).toArray

structure Band where
  Low : Int
  High : Int
instance : Wf Band := ⟨fun x => Wf.wf x.Low ∧ Wf.wf x.High⟩
instance : Flat Band := ⟨2, by decide, fun x => [.int .i64 x.Low, .int .i64 x.High], fun _ => rfl, fun x c hc => by simp only [List.mem_cons, List.not_mem_nil, or_false] at hc; rcases hc with rfl | rfl <;> rfl⟩
@[reducible] def eBand (x : Band) : List Value := [.int .i64 x.Low, .int .i64 x.High]
@[reducible] def vBand (x : Band) : Value := .agg (eBand x).toArray

structure Event where
  Kind : Int
  Month : Int
instance : Wf Event := ⟨fun x => Wf.wf x.Kind ∧ Wf.wf x.Month⟩
instance : Flat Event := ⟨2, by decide, fun x => [.int .i64 x.Kind, .int .i64 x.Month], fun _ => rfl, fun x c hc => by simp only [List.mem_cons, List.not_mem_nil, or_false] at hc; rcases hc with rfl | rfl <;> rfl⟩
@[reducible] def eEvent (x : Event) : List Value := [.int .i64 x.Kind, .int .i64 x.Month]
@[reducible] def vEvent (x : Event) : Value := .agg (eEvent x).toArray

structure Heir where
  Id : Int
  Share : Int
  Until : Int
  After : Int
instance : Wf Heir := ⟨fun x => Wf.wf x.Id ∧ Wf.wf x.Share ∧ Wf.wf x.Until ∧ Wf.wf x.After⟩
instance : Flat Heir := ⟨4, by decide, fun x => [.int .i64 x.Id, .int .i64 x.Share, .int .i64 x.Until, .int .i64 x.After], fun _ => rfl, fun x c hc => by simp only [List.mem_cons, List.not_mem_nil, or_false] at hc; rcases hc with rfl | rfl | rfl | rfl <;> rfl⟩
@[reducible] def eHeir (x : Heir) : List Value := [.int .i64 x.Id, .int .i64 x.Share, .int .i64 x.Until, .int .i64 x.After]
@[reducible] def vHeir (x : Heir) : Value := .agg (eHeir x).toArray

structure Order where
  Effective : Int
  Known : Int
  Percent : Int
instance : Wf Order := ⟨fun x => Wf.wf x.Effective ∧ Wf.wf x.Known ∧ Wf.wf x.Percent⟩
instance : Flat Order := ⟨3, by decide, fun x => [.int .i64 x.Effective, .int .i64 x.Known, .int .i64 x.Percent], fun _ => rfl, fun x c hc => by simp only [List.mem_cons, List.not_mem_nil, or_false] at hc; rcases hc with rfl | rfl | rfl <;> rfl⟩
@[reducible] def eOrder (x : Order) : List Value := [.int .i64 x.Effective, .int .i64 x.Known, .int .i64 x.Percent]
@[reducible] def vOrder (x : Order) : Value := .agg (eOrder x).toArray

structure Stay where
  Fund : Int
  From : Int
  To : Int
instance : Wf Stay := ⟨fun x => Wf.wf x.Fund ∧ Wf.wf x.From ∧ Wf.wf x.To⟩
instance : Flat Stay := ⟨3, by decide, fun x => [.int .i64 x.Fund, .int .i64 x.From, .int .i64 x.To], fun _ => rfl, fun x c hc => by simp only [List.mem_cons, List.not_mem_nil, or_false] at hc; rcases hc with rfl | rfl | rfl <;> rfl⟩
@[reducible] def eStay (x : Stay) : List Value := [.int .i64 x.Fund, .int .i64 x.From, .int .i64 x.To]
@[reducible] def vStay (x : Stay) : Value := .agg (eStay x).toArray

structure Member where
  Birth : Int
  Joined : Int
  Spells : List Spell
  Events : List Event
instance : Wf Member := ⟨fun x => Wf.wf x.Birth ∧ Wf.wf x.Joined ∧ Wf.wf x.Spells ∧ Wf.wf x.Events⟩
@[reducible] def eMember (x : Member) (y : AC × AC) : List Value := [.int .i64 x.Birth, .int .i64 x.Joined, .slice y.1.1 x.Spells.length y.1.2, .slice y.2.1 x.Events.length y.2.2]
@[reducible] def vMember (x : Member) (y : AC × AC) : Value := .agg (eMember x y).toArray

structure Case where
  Book : Book
  Store : Store
  Series : Series
  Member : Member
instance : Wf Case := ⟨fun x => Wf.wf x.Book ∧ Wf.wf x.Store ∧ Wf.wf x.Series ∧ Wf.wf x.Member⟩
instance : Rp Case where
  sz := 7
  pos := by decide
  own w F x cs := ∃ (e0 : TypeId) (e1 : TypeId) (e2 : TypeId) (e3 : TypeId) (e4 : TypeId) (a0 : Option Addr) (c0 : Nat) (a1 : Option Addr) (c1 : Nat) (a2 : Option Addr) (c2 : Nat) (a3 : Option Addr) (c3 : Nat) (a4 : Option Addr) (c4 : Nat) (F0 : List Nat) (F1 : List Nat) (F2 : List Nat) (F3 : List Nat) (F4 : List Nat), F = F0 ++ (F1 ++ (F2 ++ (F3 ++ F4))) ∧ cs = [.slice a0 x.Book.Rules.length c0, .slice a1 x.Store.Facts.length c1, .slice a2 x.Series.Points.length c2, .int .i64 x.Member.Birth, .int .i64 x.Member.Joined, .slice a3 x.Member.Spells.length c3, .slice a4 x.Member.Events.length c4] ∧ SlOwn e0 w F0 x.Book.Rules a0 c0 ∧ SlOwn e1 w F1 x.Store.Facts a1 c1 ∧ SlOwn e2 w F2 x.Series.Points a2 c2 ∧ SlOwn e3 w F3 x.Member.Spells a3 c3 ∧ SlOwn e4 w F4 x.Member.Events a4 c4
  view w x cs := ∃ (a0 : Option Addr) (c0 : Nat) (a1 : Option Addr) (c1 : Nat) (a2 : Option Addr) (c2 : Nat) (a3 : Option Addr) (c3 : Nat) (a4 : Option Addr) (c4 : Nat), cs = [.slice a0 x.Book.Rules.length c0, .slice a1 x.Store.Facts.length c1, .slice a2 x.Series.Points.length c2, .int .i64 x.Member.Birth, .int .i64 x.Member.Joined, .slice a3 x.Member.Spells.length c3, .slice a4 x.Member.Events.length c4] ∧ SlView w x.Book.Rules a0 c0 ∧ SlView w x.Store.Facts a1 c1 ∧ SlView w x.Series.Points a2 c2 ∧ SlView w x.Member.Spells a3 c3 ∧ SlView w x.Member.Events a4 c4
  own_len := by rintro w F x cs ⟨e0, e1, e2, e3, e4, a0, c0, a1, c1, a2, c2, a3, c3, a4, c4, F0, F1, F2, F3, F4, rfl, rfl, h0, h1, h2, h3, h4⟩; rfl
  view_len := by rintro w x cs ⟨a0, c0, a1, c1, a2, c2, a3, c3, a4, c4, rfl, h0, h1, h2, h3, h4⟩; rfl
  own_one := by
    rintro w F x cs ⟨e0, e1, e2, e3, e4, a0, c0, a1, c1, a2, c2, a3, c3, a4, c4, F0, F1, F2, F3, F4, rfl, rfl, h0, h1, h2, h3, h4⟩ c hc
    simp only [List.mem_cons, List.not_mem_nil, or_false] at hc
    rcases hc with rfl | rfl | rfl | rfl | rfl | rfl | rfl <;> rfl
  own_stable := by
    rintro w w' F x cs ⟨e0, e1, e2, e3, e4, a0, c0, a1, c1, a2, c2, a3, c3, a4, c4, F0, F1, F2, F3, F4, rfl, rfl, h0, h1, h2, h3, h4⟩ hs
    exact ⟨e0, e1, e2, e3, e4, a0, c0, a1, c1, a2, c2, a3, c3, a4, c4, _, _, _, _, _, rfl, rfl, h0.stable (fun g hg => hs g (by simp [hg])), h1.stable (fun g hg => hs g (by simp [hg])), h2.stable (fun g hg => hs g (by simp [hg])), h3.stable (fun g hg => hs g (by simp [hg])), h4.stable (fun g hg => hs g (by simp [hg]))⟩
  own_lt := by
    rintro w F x cs ⟨e0, e1, e2, e3, e4, a0, c0, a1, c1, a2, c2, a3, c3, a4, c4, F0, F1, F2, F3, F4, rfl, rfl, h0, h1, h2, h3, h4⟩ g hg
    simp only [List.mem_append] at hg
    rcases hg with hg | hg | hg | hg | hg
    · exact h0.lt g hg
    · exact h1.lt g hg
    · exact h2.lt g hg
    · exact h3.lt g hg
    · exact h4.lt g hg
  view_own := by
    rintro w F x cs ⟨e0, e1, e2, e3, e4, a0, c0, a1, c1, a2, c2, a3, c3, a4, c4, F0, F1, F2, F3, F4, rfl, rfl, h0, h1, h2, h3, h4⟩
    exact ⟨a0, c0, a1, c1, a2, c2, a3, c3, a4, c4, rfl, h0.view, h1.view, h2.view, h3.view, h4.view⟩
  view_stable := by
    rintro w w' x cs ⟨a0, c0, a1, c1, a2, c2, a3, c3, a4, c4, rfl, h0, h1, h2, h3, h4⟩ hs
    exact ⟨a0, c0, a1, c1, a2, c2, a3, c3, a4, c4, rfl, h0.stable hs, h1.stable hs, h2.stable hs, h3.stable hs, h4.stable hs⟩
@[reducible] def eCase (x : Case) (y : AC × AC × AC × AC × AC) : List Value := [.slice y.1.1 x.Book.Rules.length y.1.2, .slice y.2.1.1 x.Store.Facts.length y.2.1.2, .slice y.2.2.1.1 x.Series.Points.length y.2.2.1.2, .int .i64 x.Member.Birth, .int .i64 x.Member.Joined, .slice y.2.2.2.1.1 x.Member.Spells.length y.2.2.2.1.2, .slice y.2.2.2.2.1 x.Member.Events.length y.2.2.2.2.2]
@[reducible] def vCase (x : Case) (y : AC × AC × AC × AC × AC) : Value := .agg (eCase x y).toArray

structure Correction where
  Month : Int
  Old : Int
  New : Int
instance : Wf Correction := ⟨fun x => Wf.wf x.Month ∧ Wf.wf x.Old ∧ Wf.wf x.New⟩
instance : Flat Correction := ⟨3, by decide, fun x => [.int .i64 x.Month, .int .i64 x.Old, .int .i64 x.New], fun _ => rfl, fun x c hc => by simp only [List.mem_cons, List.not_mem_nil, or_false] at hc; rcases hc with rfl | rfl | rfl <;> rfl⟩
@[reducible] def eCorrection (x : Correction) : List Value := [.int .i64 x.Month, .int .i64 x.Old, .int .i64 x.New]
@[reducible] def vCorrection (x : Correction) : Value := .agg (eCorrection x).toArray

structure Item where
  Member : Int
  Cents : Int
  State : Int
instance : Wf Item := ⟨fun x => Wf.wf x.Member ∧ Wf.wf x.Cents ∧ Wf.wf x.State⟩
instance : Flat Item := ⟨3, by decide, fun x => [.int .i64 x.Member, .int .i64 x.Cents, .int .i64 x.State], fun _ => rfl, fun x c hc => by simp only [List.mem_cons, List.not_mem_nil, or_false] at hc; rcases hc with rfl | rfl | rfl <;> rfl⟩
@[reducible] def eItem (x : Item) : List Value := [.int .i64 x.Member, .int .i64 x.Cents, .int .i64 x.State]
@[reducible] def vItem (x : Item) : Value := .agg (eItem x).toArray

structure Run where
  Month : Int
  Items : List Item
instance : Wf Run := ⟨fun x => Wf.wf x.Month ∧ Wf.wf x.Items⟩
@[reducible] def eRun (x : Run) (y : AC) : List Value := [.int .i64 x.Month, .slice y.1 x.Items.length y.2]
@[reducible] def vRun (x : Run) (y : AC) : Value := .agg (eRun x y).toArray

structure Bank where
  Keys : List Int
  Cents : List Int
instance : Wf Bank := ⟨fun x => Wf.wf x.Keys ∧ Wf.wf x.Cents⟩
@[reducible] def eBank (x : Bank) (y : AC × AC) : List Value := [.slice y.1.1 x.Keys.length y.1.2, .slice y.2.1 x.Cents.length y.2.2]
@[reducible] def vBank (x : Bank) (y : AC × AC) : Value := .agg (eBank x y).toArray

structure Bracket where
  From : Int
  Rate : Int
instance : Wf Bracket := ⟨fun x => Wf.wf x.From ∧ Wf.wf x.Rate⟩
instance : Flat Bracket := ⟨2, by decide, fun x => [.int .i64 x.From, .int .i64 x.Rate], fun _ => rfl, fun x c hc => by simp only [List.mem_cons, List.not_mem_nil, or_false] at hc; rcases hc with rfl | rfl <;> rfl⟩
@[reducible] def eBracket (x : Bracket) : List Value := [.int .i64 x.From, .int .i64 x.Rate]
@[reducible] def vBracket (x : Bracket) : Value := .agg (eBracket x).toArray

structure Posting where
  Month : Int
  Debit : Int
  Credit : Int
  Cents : Int
instance : Wf Posting := ⟨fun x => Wf.wf x.Month ∧ Wf.wf x.Debit ∧ Wf.wf x.Credit ∧ Wf.wf x.Cents⟩
instance : Flat Posting := ⟨4, by decide, fun x => [.int .i64 x.Month, .int .i64 x.Debit, .int .i64 x.Credit, .int .i64 x.Cents], fun _ => rfl, fun x c hc => by simp only [List.mem_cons, List.not_mem_nil, or_false] at hc; rcases hc with rfl | rfl | rfl | rfl <;> rfl⟩
@[reducible] def ePosting (x : Posting) : List Value := [.int .i64 x.Month, .int .i64 x.Debit, .int .i64 x.Credit, .int .i64 x.Cents]
@[reducible] def vPosting (x : Posting) : Value := .agg (ePosting x).toArray

structure Ledger where
  Postings : List Posting
instance : Wf Ledger := ⟨fun x => Wf.wf x.Postings⟩
@[reducible] def eLedger (x : Ledger) (y : AC) : List Value := [.slice y.1 x.Postings.length y.2]
@[reducible] def vLedger (x : Ledger) (y : AC) : Value := .agg (eLedger x y).toArray

structure Books where
  Ledger : Ledger
  Closed : Int
instance : Wf Books := ⟨fun x => Wf.wf x.Ledger ∧ Wf.wf x.Closed⟩
@[reducible] def eBooks (x : Books) (y : AC) : List Value := [.slice y.1 x.Ledger.Postings.length y.2, .int .i64 x.Closed]
@[reducible] def vBooks (x : Books) (y : AC) : Value := .agg (eBooks x y).toArray

structure Statement where
  Month : Int
  Known : Int
  Cents : Int
instance : Wf Statement := ⟨fun x => Wf.wf x.Month ∧ Wf.wf x.Known ∧ Wf.wf x.Cents⟩
instance : Flat Statement := ⟨3, by decide, fun x => [.int .i64 x.Month, .int .i64 x.Known, .int .i64 x.Cents], fun _ => rfl, fun x c hc => by simp only [List.mem_cons, List.not_mem_nil, or_false] at hc; rcases hc with rfl | rfl | rfl <;> rfl⟩
@[reducible] def eStatement (x : Statement) : List Value := [.int .i64 x.Month, .int .i64 x.Known, .int .i64 x.Cents]
@[reducible] def vStatement (x : Statement) : Value := .agg (eStatement x).toArray

structure Office where
  Case : Case
  Start : Int
  Paid : List Int
instance : Wf Office := ⟨fun x => Wf.wf x.Case ∧ Wf.wf x.Start ∧ Wf.wf x.Paid⟩
@[reducible] def eOffice (x : Office) (y : AC × AC × AC × AC × AC × AC) : List Value := [.slice y.1.1 x.Case.Book.Rules.length y.1.2, .slice y.2.1.1 x.Case.Store.Facts.length y.2.1.2, .slice y.2.2.1.1 x.Case.Series.Points.length y.2.2.1.2, .int .i64 x.Case.Member.Birth, .int .i64 x.Case.Member.Joined, .slice y.2.2.2.1.1 x.Case.Member.Spells.length y.2.2.2.1.2, .slice y.2.2.2.2.1.1 x.Case.Member.Events.length y.2.2.2.2.1.2, .int .i64 x.Start, .slice y.2.2.2.2.2.1 x.Paid.length y.2.2.2.2.2.2]
@[reducible] def vOffice (x : Office) (y : AC × AC × AC × AC × AC × AC) : Value := .agg (eOffice x y).toArray

structure Act where
  Kind : Int
  Fact : Fact
  Point : Point
  N : Int
instance : Wf Act := ⟨fun x => Wf.wf x.Kind ∧ Wf.wf x.Fact ∧ Wf.wf x.Point ∧ Wf.wf x.N⟩
instance : Flat Act := ⟨10, by decide, fun x => [.int .i64 x.Kind, .int .i64 x.Fact.Key, .int .i64 x.Fact.From, .int .i64 x.Fact.To, .int .i64 x.Fact.Known, .int .i64 x.Fact.Value, .int .i64 x.Point.Month, .int .i64 x.Point.Known, .int .i64 x.Point.Value, .int .i64 x.N], fun _ => rfl, fun x c hc => by simp only [List.mem_cons, List.not_mem_nil, or_false] at hc; rcases hc with rfl | rfl | rfl | rfl | rfl | rfl | rfl | rfl | rfl | rfl <;> rfl⟩
@[reducible] def eAct (x : Act) : List Value := [.int .i64 x.Kind, .int .i64 x.Fact.Key, .int .i64 x.Fact.From, .int .i64 x.Fact.To, .int .i64 x.Fact.Known, .int .i64 x.Fact.Value, .int .i64 x.Point.Month, .int .i64 x.Point.Known, .int .i64 x.Point.Value, .int .i64 x.N]
@[reducible] def vAct (x : Act) : Value := .agg (eAct x).toArray

end Go.Pen
