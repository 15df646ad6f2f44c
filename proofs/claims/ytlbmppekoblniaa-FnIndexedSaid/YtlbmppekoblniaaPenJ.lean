/-
  A row's head kept, its tail cleared; functions that write into their arguments and know closures.
-/
import Derived.Test.YtlbmppekoblniaaPenI
namespace Go.Pen
open Go.RowKit
set_option linter.unusedVariables false

section
variable {P : Program} {A : Nat → Prop} {W0 : World} {n : Nat} {ops : Array Oper} {sl sl' : List (Nat × SV)} {bx bx' : List (TypeId × List Value)} {R R' Rc Rr Rin Rout : List Res} {Q Q' : Exit → Act → World → Prop}

/-! ### An owned row's head -/

theorem ownL_take {α : Type} [Rp α] {w : World} : ∀ {l : List α} {F : List Nat} {xs : List Value} (k : Nat), ownL w F l xs → ∃ F', ownL w F' (l.take k) (xs.take (k * Rp.sz α)) ∧ F'.Sublist F
  | [], F, xs, k, h => by
    obtain ⟨rfl, rfl⟩ := h
    exact ⟨[], by simp only [List.take_nil]; exact ⟨rfl, rfl⟩, List.Sublist.refl _⟩
  | x :: l, F, xs, 0, h => ⟨[], by simp only [List.take_zero, Nat.zero_mul]; exact ⟨rfl, rfl⟩, List.nil_sublist _⟩
  | x :: l, F, xs, k + 1, ⟨F1, F2, c1, c2, hF, hx, h1, h2⟩ => by
    obtain ⟨F', g1, g2⟩ := ownL_take k h2
    have hl := Rp.own_len h1
    refine ⟨F1 ++ F', ⟨F1, F', c1, c2.take (k * Rp.sz α), rfl, ?_, h1, g1⟩, by rw [hF]; exact List.Sublist.append_left g2 F1⟩
    rw [hx, Nat.succ_mul, Nat.add_comm, ← hl, List.take_append, List.take_of_length_le (by omega)]
    congr 2
    omega

theorem SlOwn.take {α : Type} [Rp α] {e : TypeId} {w : World} {F : List Nat} {l : List α} {a : Option Addr} {cap : Nat} (h : SlOwn e w F l a cap) (k : Nat) : ∃ F', SlOwn e w F' (l.take k) a cap ∧ F'.Sublist F := by
  rcases h with ⟨rfl, rfl, rfl⟩ | ⟨g, xs, F', cur, rfl, rfl, h3, h4, h5, h6, h7, h8⟩
  · exact ⟨[], .inl ⟨by simp, rfl, rfl⟩, List.Sublist.refl _⟩
  · obtain ⟨F2, g1, g2⟩ := ownL_take k h3
    refine ⟨g :: F2, .inr ⟨g, _, F2, cur, rfl, rfl, g1, h4, by rw [List.length_take]; omega, h6, h7, ?_⟩, List.Sublist.cons_cons g g2⟩
    rw [← h8, List.take_take, List.length_take]
    congr 1
    rcases Nat.le_total k l.length with hk | hk
    · rw [Nat.min_eq_left hk, Nat.min_eq_left (Nat.mul_le_mul_right _ hk)]
    · rw [Nat.min_eq_right hk, Nat.min_eq_right (Nat.mul_le_mul_right _ hk)]

theorem SAT.shrink {α : Type} [Rp α] {γ : List Nat} {w : World} {e : TypeId} {l : List α} {a : Option Addr} {cap : Nat} (h : SAT A W0 γ bx (SlRes e l a cap :: Rr) w) (k : Nat) : SAT A W0 γ bx (SlRes e (l.take k) a cap :: Rr) w := by
  have h' : SAT A W0 γ bx ([SlRes e l a cap] ++ Rr) w := h
  obtain ⟨Fs, hF, hnd, hlt, hback⟩ := h'.swapE
  obtain ⟨F1, _, rfl, b1, b2⟩ := hF
  simp only [holdsAll] at b2
  subst b2
  have b1' : SlOwn e w F1 l a cap := b1
  obtain ⟨F', g1, g2⟩ := b1'.take k
  simp only [List.flatten_cons, List.flatten_nil, List.append_nil] at hnd hback
  exact hback w _ F' rfl rfl rfl (Nat.le_refl _) g1 (hnd.sublist g2) (fun g hg => .inl (g2.subset hg)) (fun _ _ _ => rfl)

/-- The head of an owned slice: the rest is let go. -/
theorem JO_headR {α : Type} [Rp α] {l rest : List Oper} {o : Oper} (hl : l = o :: rest) (hw : wantedS ops sl o = some true) {a0 : Option Addr} {n0 c0 : Nat} {hi : Int} (he : evHead P sl o = some (a0, n0, c0, hi)) {e : TypeId} {xs xs' : List α}
    (hx : headL xs hi = some xs') (hR : R = SlRes e xs a0 c0 :: Rr) (hp : putS n sl o.dst (.v (.slice a0 xs'.length c0)) = some sl') (k : JO P A W0 n ops rest sl' bx (SlRes e xs' a0 c0 :: Rr) Q) : JO P A W0 n ops l sl bx R Q := by
  subst hR
  intro γ a w hls hs
  have hfit := (hs.view 0 rfl).fit
  obtain ⟨hx1, _⟩ := headL_some hx
  refine JO_head hl hw he hx hfit hp (Q := Q) (R := SlRes e xs a0 c0 :: Rr) ?_ γ a w hls hs
  intro γ' a' w' hl' hs'
  refine k γ' a' w' hl' ?_
  rw [hx1]
  exact hs'.shrink _

/-! ### A row's tail cleared -/

/-- The list with zeros from a place on. -/
def zeroTail {α : Type} (l : List α) (lo : Int) (z : α) : Option (List α) := if 0 ≤ lo ∧ lo ≤ (l.length : Int) then some (l.take lo.toNat ++ List.replicate (l.length - lo.toNat) z) else none

theorem zeroTail_some {α : Type} {l l' : List α} {lo : Int} {z : α} (h : zeroTail l lo z = some l') : l' = l.take lo.toNat ++ List.replicate (l.length - lo.toNat) z ∧ 0 ≤ lo ∧ lo ≤ (l.length : Int) ∧ l'.length = l.length := by
  unfold zeroTail at h
  split at h
  · rename_i hb
    simp only [Option.some.injEq] at h
    subst h
    exact ⟨rfl, hb.1, hb.2, by simp; omega⟩
  · cases h

/-- Where a row's tail lies. -/
def tailA (a : Option Addr) (c : Nat) (lo : Int) (s : Nat) : Option Addr := if c = lo.toNat then a else a.map (·.add (lo.toNat * s))

def evTail (P : Program) (sl : List (Nat × SV)) (o : Oper) : Option (Nat × Option Addr × Nat × Nat × Int) :=
  match o.op with
  | .slice t x (some lo) none none => match P.underlying t, opV sl x, opV sl lo with
    | some (.slice e), some (.slice a n c), some (.int _ h) => match P.info? e with
      | some i => some (i.size, a, n, c, h)
      | none => none
    | _, _, _ => none
  | _ => none

theorem JO_tail {α : Type} {l rest : List Oper} {o : Oper} (hl : l = o :: rest) (hw : wantedS ops sl o = some true) {s : Nat} {a0 : Option Addr} {c0 : Nat} {lo : Int} {xs xs' : List α} {z : α} (he : evTail P sl o = some (s, a0, xs.length, c0, lo))
    (hx : zeroTail xs lo z = some xs') (hp : putS n sl o.dst (.v (.slice (tailA a0 c0 lo s) (xs.length - lo.toNat) (c0 - lo.toNat))) = some sl') (k : JO P A W0 n ops rest sl' bx R Q) : JO P A W0 n ops l sl bx R Q := by
  subst hl
  intro γ a w hl hs
  obtain ⟨_, h0, h1, h2⟩ := zeroTail_some hx
  have hr : (execOp a.eval o).run P w = .ok (.value (.slice (tailA a0 c0 lo s) (xs.length - lo.toNat) (c0 - lo.toNat))) w := by
    obtain ⟨dst, op, type, pos, after, guard⟩ := o
    unfold evTail at he
    split at he
    · rename_i t x h' hop
      simp only at hop
      subst hop
      split at he
      · rename_i e a1 n1 c1 kk hh ht hx' hh'
        split at he
        · rename_i inf hinf
          simp only [Option.some.injEq, Prod.mk.injEq] at he
          obtain ⟨rfl, rfl, rfl, rfl, rfl⟩ := he
          have hel : P.elem t = e := by simp [Program.elem, ht]
          have := run_slice_l (P := P) (w := w) t a1 xs.length c1 (by rw [hel]; exact ht) kk hh h0 h1
          rw [hel] at this
          simp only [execOp, Option.map_none, Option.map_some, hl.evalV hx', hl.evalV hh', Sem.run_bind]
          have h3 : (Instr.sliceAt t (.slice a1 xs.length c1) (some (.int kk hh)) none none).run P w = (Instr.slice t (.slice a1 xs.length c1) (some (.int kk hh)) none none).run P w := by simp [Instr.sliceAt, run_underlying ht]
          rw [h3, this]
          simp [sizeOf, typeInfo, hinf, sliced, tailA]
        · cases he
      · cases he
    · cases he
  unfold wpList
  rw [if_pos (wantedS_ok hl hw)]
  refine .inl ?_
  unfold Oper.wp
  rw [hr]
  exact k γ _ _ (hl.putS hp trivial) hs

def evClear (P : Program) (sl : List (Nat × SV)) (o : Oper) : Option (TypeId × Option Addr × Nat × Nat) :=
  match o.op with
  | .call c => match c.callee with
    | .builtin .clear => match c.args.toList, c.argTypes.toList with
      | [x], [t] => match opV sl x with
        | some (.slice a n cc) => match P.underlying t with
          | some (.slice e) => some (e, a, n, cc)
          | _ => none
        | _ => none
      | _, _ => none
    | _ => none
  | _ => none

theorem evClear_ok {γ : List Nat} {a : Act} {o : Oper} {e : TypeId} {ad : Option Addr} {m cc : Nat} (hl : Live n γ sl a) (h : evClear P sl o = some (e, ad, m, cc)) :
    ∃ t, P.underlying t = some (.slice e) ∧ ∀ w, (execOp a.eval o).run P w = ((Builtin.clear_ #[t] o.type #[.slice ad m cc]).run P w).andThen fun v w' => .ok (.value v) w' := by
  obtain ⟨dst, op, type, pos, after, guard⟩ := o
  unfold evClear at h
  split at h
  · rename_i c hop
    simp only at hop
    subst hop
    obtain ⟨callee, args, argTypes⟩ := c
    split at h
    · rename_i hcal
      simp only at hcal
      subst hcal
      split at h
      · rename_i x' t1 hargs htys
        simp only at hargs htys
        split at h
        · rename_i a1 n1 c1 hx
          split at h
          · rename_i e' ht
            simp only [Option.some.injEq, Prod.mk.injEq] at h
            obtain ⟨rfl, rfl, rfl, rfl⟩ := h
            refine ⟨t1, ht, fun w => ?_⟩
            have e1 : args = #[x'] := by cases args; simp_all
            have e2 : argTypes = #[t1] := by cases argTypes; simp_all
            subst e1 e2
            simp [execOp, resolve, invoke, builtin, hl.evalV hx]
          · cases h
        · cases h
      · cases h
    · cases h
  · cases h

theorem ownL_flat {α : Type} [Flat α] {w : World} : ∀ {l : List α} {F : List Nat} {xs : List Value}, ownL w F l xs → F = [] ∧ xs = encL l
  | [], F, xs, h => h
  | x :: l, F, xs, ⟨F1, F2, c1, c2, hF, hx, h1, h2⟩ => by
    obtain ⟨rfl, rfl⟩ := ownL_flat h2
    obtain ⟨rfl, rfl⟩ := h1
    exact ⟨by simpa using hF, hx⟩

theorem encL_length {α : Type} [Flat α] (l : List α) : (encL l).length = l.length * Flat.sz α := by
  induction l with
  | nil => simp [encL]
  | cons x l ih => simp only [encL, List.length_append, Flat.len, ih, List.length_cons, Nat.succ_mul]; omega

theorem encL_append {α : Type} [Flat α] (l l' : List α) : encL (l ++ l') = encL l ++ encL l' := by
  induction l with
  | nil => rfl
  | cons x l ih => simp only [List.cons_append, encL, ih, List.append_assoc]

theorem encL_replicate {α : Type} [Flat α] (x : α) (k : Nat) : encL (List.replicate k x) = (List.replicate k (Flat.enc x)).flatten := by
  induction k with
  | zero => rfl
  | succ k ih => simp only [List.replicate_succ, encL, ih, List.flatten_cons]

theorem encL_take {α : Type} [Flat α] (l : List α) (k : Nat) : encL (l.take k) = (encL l).take (k * Flat.sz α) := by
  induction l generalizing k with
  | nil => simp [encL]
  | cons x l ih =>
    cases k with
    | zero => simp [encL]
    | succ k =>
      simp only [List.take_succ_cons, encL, ih]
      rw [show (k + 1) * Flat.sz α = (Flat.enc x).length + k * Flat.sz α by rw [Flat.len, Nat.succ_mul]; omega, List.take_length_add_append]

theorem run_clear0 {w : World} {t ty e : TypeId} {ad : Option Addr} {cc : Nat} (ht : P.underlying t = some (.slice e)) : (Builtin.clear_ #[t] ty #[.slice ad 0 cc]).run P w = .ok (.tuple #[]) w := by
  cases ad <;> simp [Builtin.clear_, run_underlying ht]

theorem run_clear {w : World} {t ty e : TypeId} {i : TypeInfo} {z : Value} {g off m cc : Nat} {cur : Array Value} (ht : P.underlying t = some (.slice e)) (hi : P.info? e = some i) (hz : i.zero = some z) (hm : 0 < m) (hg : w.heap[g]? = some (.cells cur e (0, 0)))
    (hle : off + m * z.cells.size ≤ cur.size) (hzs : 0 < z.cells.size) (h1 : ∀ c ∈ z.cells.toList, c.oneCell' = true) : (Builtin.clear_ #[t] ty #[.slice (some ⟨g, off, none⟩) m cc]).run P w = .ok (.tuple #[]) (w.setRow g (cur.toList.take off ++ (List.replicate m z.cells.toList).flatten ++ cur.toList.drop (off + m * z.cells.size)).toArray) := by
  have hcl : (Builtin.zeroCells z.cells m).toList = (List.replicate m z.cells.toList).flatten := by
    apply List.ext_getElem?
    intro j
    by_cases h : j < m * z.cells.size
    · rw [flatten_replicate_get z.cells.toList m j (by simpa using h)]
      have hm : j % z.cells.size < z.cells.size := Nat.mod_lt _ hzs
      simp [Builtin.zeroCells, h, hm]
    · rw [List.getElem?_eq_none (by simpa [Builtin.zeroCells] using h), List.getElem?_eq_none (by simp; omega)]
  have hlen : (List.replicate m z.cells.toList).flatten.length = m * z.cells.size := by simp
  have hst := run_storeCells_at (P := P) g off e (Builtin.zeroCells z.cells m).toList 0 cur w hg (by rw [hcl, hlen]; omega) (fun v hv => by
    rw [hcl] at hv
    obtain ⟨l, hl, hv⟩ := List.mem_flatten.1 hv
    rw [(List.mem_replicate.1 hl).2] at hv
    exact h1 v hv)
  rw [hcl, hlen] at hst
  simp only [Nat.add_zero] at hst
  obtain ⟨m', rfl⟩ : ∃ m', m = m' + 1 := ⟨m - 1, by omega⟩
  simp [Builtin.clear_, run_underlying ht, zeroValue, typeInfo, hi, hz, hcl, hst]

/-- A row's tail is cleared. -/
theorem JO_clear {α : Type} [Flat α] {l rest : List Oper} {o : Oper} (hl : l = o :: rest) (hw : wantedS ops sl o = some true) {e : TypeId} {a0 : Option Addr} {c0 : Nat} {lo : Int} {xs xs' : List α} {zx : α}
    (he : evClear P sl o = some (e, tailA a0 c0 lo (Flat.sz α), xs.length - lo.toNat, c0 - lo.toNat)) {i : TypeInfo} (hi : P.info? e = some i) {z : Value} (hz : i.zero = some z) (hzx : Flat.enc zx = z.cells.toList)
    (hx : zeroTail xs lo zx = some xs') (hR : R = SlRes e xs a0 c0 :: Rr) (hp : putS n sl o.dst (.v (.tuple #[])) = some sl') (k : JO P A W0 n ops rest sl' bx (SlRes e xs' a0 c0 :: Rr) Q) : JO P A W0 n ops l sl bx R Q := by
  subst hl hR
  intro γ a w hl hs
  obtain ⟨hx', h0, h1, h2⟩ := zeroTail_some hx
  obtain ⟨t, ht, hrun⟩ := evClear_ok hl he
  have hzs : z.cells.size = Flat.sz α := by rw [← Array.length_toList, ← hzx, Flat.len]
  unfold wpList
  rw [if_pos (wantedS_ok hl hw)]
  refine .inl ?_
  unfold Oper.wp
  rw [hrun w]
  obtain ⟨L, hL⟩ : ∃ L, lo.toNat = L := ⟨_, rfl⟩
  rw [hL] at hx' ⊢
  have hLl : L ≤ xs.length := by omega
  have same : xs.length - L = 0 → xs' = xs := fun h => by rw [hx', h, List.replicate_zero, List.append_nil, List.take_of_length_le (by omega)]
  have hs2 : SAT A W0 γ bx ([SlRes e xs a0 c0] ++ Rr) w := hs
  obtain ⟨Fs, hF, hnd, hlt, hback⟩ := hs2.swapE
  obtain ⟨FX, Fs', rfl, b3, b4⟩ := hF
  simp only [holdsAll] at b4
  subst b4
  have b3' : SlOwn e w FX xs a0 c0 := b3
  by_cases hm : xs.length - L = 0
  · rw [hm, run_clear0 ht]
    have e1 := same hm
    rw [e1] at k
    exact k γ _ _ (hl.putS hp trivial) hs
  · rcases b3' with ⟨rfl, _, _⟩ | ⟨g, ys, F', cur, rfl, rfl, c1, c2, c3, c4, c5, c6⟩
    · simp at hm
    · obtain ⟨rfl, rfl⟩ := ownL_flat c1
      have hsz : Rp.sz α = Flat.sz α := rfl
      have hta : tailA (some ⟨g, 0, none⟩) c0 lo (Flat.sz α) = some ⟨g, L * Flat.sz α, none⟩ := by
        unfold tailA
        rw [hL, if_neg (by omega)]
        simp [Addr.add]
        exact fun h => h.symm
      have hspan : (L + (xs.length - L)) * Flat.sz α ≤ c0 * Flat.sz α := Nat.mul_le_mul_right _ (by omega)
      rw [Nat.add_mul] at hspan
      have hcs : cur.size = c0 * Flat.sz α := c5
      have hr := run_clear (P := P) (w := w) (ty := o.type) (cc := c0 - L) ht hi hz (show 0 < xs.length - L by omega) c2 (off := L * Flat.sz α) (by rw [hzs, hcs]; exact hspan) (by rw [hzs]; exact Flat.pos) (by rw [← hzx]; exact Flat.one zx)
      rw [hta, hr]
      refine k γ _ _ (hl.putS hp trivial) ?_
      refine hback _ _ [g] rfl rfl rfl (by simp) (.inr ⟨g, encL xs', [], _, rfl, rfl, ownL_enc _ _, setRow_heap w g cur _ e _ c2, by omega, c4, ?_, ?_⟩) (by simp) (fun q hq => .inl (by simpa using hq)) (fun q hq hne => setRow_other w g q _ (fun h => hne (by simp [h])))
      · simp only [List.size_toArray, List.length_append, List.length_take, List.length_drop, Array.length_toList, List.length_flatten, List.map_replicate, List.sum_replicate_nat, hcs, hzs, hsz]
        omega
      · have htk : cur.toList.take (L * Flat.sz α) = (encL xs).take (L * Flat.sz α) := by
          rw [← c6, List.take_take, hsz]
          congr 1
          have : L * Flat.sz α ≤ xs.length * Flat.sz α := Nat.mul_le_mul_right _ hLl
          omega
        have hee : encL xs' = cur.toList.take (L * Flat.sz α) ++ (List.replicate (xs.length - L) z.cells.toList).flatten := by
          rw [hx', encL_append, encL_take, encL_replicate, hzx, htk]
        have hll := encL_length xs'
        rw [List.toList_toArray, ← hee, hsz, ← hll, List.take_left]

/-! ### Functions that write into their arguments and know closures -/

/-- Such a call, where these blocks are none of what it is handed. -/
def GivesMD (P : Program) (G : List Nat) (f : FuncId) (args : Array Value) (w : World) (Rin Rout : List Res) (x : Value) : Prop :=
  ∀ Fs, holdsAll w Rin Fs → Fs.flatten.Nodup → (∀ g ∈ Fs.flatten, g < w.heap.size) → (∀ g ∈ G, g ∉ Fs.flatten) → Calls P f args w (TurnedTo Fs w Rout x)

theorem enterMD {f : FuncId} {fn : Func} {c : Code} (svs : List SV) {args : List Value} {W : World} {x : Value} {G : List Nat} (hd : svs.map (SV.den []) = args) (hpl : svs.all plainSV = true) (hf : P.funcs[f]? = some fn) (hb : fn.body = some c) (hn : fn.ntmps = n) (hsz : Nat.ble args.length n = true)
    (h : ∀ Fs : List (List Nat), (∀ g ∈ G, g ∉ Fs.flatten) → JC P (fun g => g ∈ Fs.flatten) W n c (argSV 0 svs) [] Rin (bodyPost P fn (TurnedTo Fs W Rout x))) : GivesMD P G f args.toArray W Rin Rout x := by
  intro Fs hF hN hL hG
  have hsz' := Nat.le_of_ble_eq_true hsz
  have hnp : ∀ t x, look (argSV 0 svs) t = some x → plainSV x = true := fun t x hx => by
    obtain ⟨_, hv⟩ := look_argSV _ _ _ _ hx
    exact List.all_eq_true.1 hpl x (List.mem_of_getElem? hv)
  refine calls_of_wp hf hb (h Fs hG [] _ W ⟨rfl, by simp [hn]; omega, fun t x hx => ?_, fun t x hx => ?_⟩ ⟨Kept.refl _ _, rfl, by intro k e cs hk; simp at hk, Fs, hF, by simpa using hN, fun g hg => ⟨hL g (by simpa using hg), .inr (by simpa using hg)⟩⟩)
  · obtain ⟨_, hv⟩ := look_argSV _ _ _ _ hx
    simp only [Nat.sub_zero] at hv
    have hv2 : args[t]? = some (x.den []) := by rw [← hd]; simp [hv]
    have hlt := (List.getElem?_eq_some_iff.1 hv2).1
    rw [Array.getElem?_append]
    have hv' := (List.getElem?_eq_some_iff.1 hv2).2
    simp [hlt, hv']
  · have := hnp t x hx
    cases x with
    | v y => trivial
    | q a k => trivial
    | p k off => simp [plainSV] at this
    | f i ks => simp [plainSV] at this

theorem CellsAt.keptM {W w : World} {g k : Nat} {cs : List Value} (h : CellsAt W (some ⟨g, 0, none⟩) k cs) (hk : Kept A W w) (hg : ¬ A g) : CellsAt w (some ⟨g, 0, none⟩) k cs := by
  intro j u hu
  obtain ⟨d, hd, hc⟩ := h j u hu
  refine ⟨d, hd, ?_⟩
  simp only [Option.some.injEq] at hd
  subst hd
  rw [World.cell?_of_block (w := W) (w' := w) (hk.block _ (World.block_lt_of_cell? W _ hc) hg)]
  exact hc

theorem SAT.apart {γ : List Nat} {w : World} (h : SAT A W0 γ bx (Rc ++ Rr) w) : ∃ Fs, holdsAll w Rc Fs ∧ Fs.flatten.Nodup ∧ (∀ g ∈ Fs.flatten, g < w.heap.size) ∧ (∀ g ∈ γ, g ∉ Fs.flatten) ∧
    ∀ (w' : World) (Rs : List Res) (Gs : List (List Nat)), w'.os = w.os → w'.tape = w.tape → w'.output = w.output → w.heap.size ≤ w'.heap.size → holdsAll w' Rs Gs → Gs.flatten.Nodup →
      (∀ g ∈ Gs.flatten, g ∈ Fs.flatten ∨ (w.heap.size ≤ g ∧ g < w'.heap.size)) → (∀ k, k < w.heap.size → k ∉ Fs.flatten → w'.heap[k]? = w.heap[k]?) → SAT A W0 γ bx (Rs ++ Rr) w' := by
  obtain ⟨Fs, h1, h2, h3⟩ := h.own
  obtain ⟨F1, F2, rfl, g1, g2⟩ := holdsAll_split h1
  rw [List.flatten_append, List.nodup_append, List.nodup_append] at h2
  obtain ⟨hγ, ⟨hn1, hn2, hd12⟩, hdγ⟩ := h2
  have lt : ∀ g, g ∈ γ ∨ g ∈ F1.flatten ∨ g ∈ F2.flatten → g < w.heap.size ∧ (W0.heap.size ≤ g ∨ A g) := fun g hg => h3 g (by simp only [List.flatten_append, List.mem_append]; exact hg)
  refine ⟨F1, g1, hn1, fun g hg => (lt g (.inr (.inl hg))).1, fun g hg hm => hdγ g hg g (by simp [hm]) rfl, fun w' Rs Gs os tape out size hF hFn hFm hkeep => ?_⟩
  have hz := h.kept.size
  have keep2 : ∀ g ∈ F2.flatten, w'.heap[g]? = w.heap[g]? := fun g hg => hkeep g (lt g (.inr (.inr hg))).1 (fun hm => hd12 g hm g hg rfl)
  have keepγ : ∀ g ∈ γ, w'.heap[g]? = w.heap[g]? := fun g hg => hkeep g (lt g (.inl hg)).1 (fun hm => hdγ g hg g (by simp [hm]) rfl)
  refine ⟨h.kept.trans_of os tape out size ?_, h.len, ?_, Gs ++ F2, holdsAll_append hF (holdsAll_stable g2 keep2), ?_, ?_⟩
  · intro k hk hA
    refine hkeep k (Nat.lt_of_lt_of_le hk hz) (fun hm => ?_)
    rcases (lt k (.inr (.inl hm))).2 with h4 | h4
    · omega
    · exact hA h4
  · intro k e cs hk
    have hkg : k < γ.length := by rw [h.len]; exact (List.getElem?_eq_some_iff.1 hk).1
    have hm : γ.getD k 0 ∈ γ := by
      simp only [List.getD_eq_getElem?_getD, List.getElem?_eq_getElem hkg, Option.getD_some]; exact List.getElem_mem _
    rw [keepγ _ hm]
    exact h.boxes k e cs hk
  · rw [List.flatten_append, List.nodup_append, List.nodup_append]
    refine ⟨hγ, ⟨hFn, hn2, ?_⟩, ?_⟩
    · intro x hx y hy e
      subst e
      rcases hFm x hx with hm | hm
      · exact hd12 x hm x hy rfl
      · have := (lt x (.inr (.inr hy))).1; omega
    · intro x hx y hy e
      subst e
      rw [List.mem_append] at hy
      rcases hy with hy | hy
      · rcases hFm x hy with hm | hm
        · exact hdγ x hx x (by simp [hm]) rfl
        · have := (lt x (.inl hx)).1; omega
      · exact hdγ x hx x (by simp only [List.mem_append]; exact .inr hy) rfl
  · intro g hg
    simp only [List.flatten_append, List.mem_append] at hg
    rcases hg with hg | hg | hg
    · have := lt g (.inl hg); exact ⟨Nat.lt_of_lt_of_le this.1 size, this.2⟩
    · rcases hFm g hg with hm | hm
      · have := lt g (.inr (.inl hm)); exact ⟨Nat.lt_of_lt_of_le this.1 size, this.2⟩
      · exact ⟨hm.2, .inl (by omega)⟩
    · have := lt g (.inr (.inr hg)); exact ⟨Nat.lt_of_lt_of_le this.1 size, this.2⟩

theorem JO_callMD {l rest : List Oper} {o : Oper} (ks : List Nat) (hl : l = o :: rest) (hw : wantedS ops sl o = some true) {f : FuncId} {args : List Nat → Array Value} (hc : ∀ γ, evCallD P sl γ o = some (f, args γ)) {x : Value}
    (hks : ks.all (fun k => Nat.blt k bx.length) = true) (hR : R = Rin ++ Rr) (h : ∀ γ w, SAT A W0 γ bx R w → GivesMD P (ks.map fun k => γ.getD k 0) f (args γ) w Rin Rout x) (hp : putS n sl o.dst (.v x) = some sl') (k : JO P A W0 n ops rest sl' bx (Rout ++ Rr) Q) : JO P A W0 n ops l sl bx R Q := by
  subst hl hR
  intro γ a w hl hs
  unfold wpList
  rw [if_pos (wantedS_ok hl hw)]
  refine .inl ?_
  unfold Oper.wp
  rw [evCallD_ok hl (hc γ) w]
  obtain ⟨Fs, h1, h2, h3, h4, hback⟩ := hs.apart
  refine (h γ w hs Fs h1 h2 h3 (fun g hg => ?_)).mono ?_
  · obtain ⟨k, hk, rfl⟩ := List.mem_map.1 hg
    have hlt : k < bx.length := by
      have := List.all_eq_true.1 hks k hk
      simp only [Nat.blt, Nat.ble_eq] at this
      omega
    have hlt2 : k < γ.length := by rw [hs.len]; exact hlt
    refine h4 _ ?_
    simp only [List.getD_eq_getElem?_getD, List.getElem?_eq_getElem hlt2, Option.getD_some]; exact List.getElem_mem _
  rintro e w' ⟨rfl, t1, t2, t3, t4, t5, Fs', t6, t7, t8⟩
  exact k γ _ w' (hl.putS hp trivial) (hback w' Rout Fs' t1 t2 t3 t4 t6 t7 t8 t5)

end
end Go.Pen
