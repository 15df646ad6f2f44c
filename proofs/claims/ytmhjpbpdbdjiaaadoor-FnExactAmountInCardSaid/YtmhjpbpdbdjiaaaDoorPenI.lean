/-
  Regions that draw their order and turn the memory: whatever order comes.
-/
import Derived.Test.YtmhjpbpdbdjiaaaDoorPenH
namespace Go.Pen
open Go.RowKit
set_option linter.unusedVariables false

/-- One operation, what follows open. -/
def wp1 (P : Program) (ops : Array Oper) (Q : Exit → Act → World → Prop) (o : Oper) (K : Act → World → Prop) (a : Act) (w : World) : Prop :=
  (Region.wanted o (yielded ops a.tmps) = true ∧ o.wp P a w K Q) ∨ (Region.wanted o (yielded ops a.tmps) = false ∧ K (a.put o.dst undef) w)

def KG (A : Nat → Prop) (W0 : World) (n : Nat) (γ : List Nat) (sl : List (Nat × SV)) (bx : List (TypeId × List Value)) (R : List Res) (K : Act → World → Prop) : Prop :=
  ∀ a w, Live n γ sl a → SAT A W0 γ bx R w → K a w

def JG (P : Program) (A : Nat → Prop) (W0 : World) (n : Nat) (ops : Array Oper) (γ : List Nat) (o : Oper) (sl : List (Nat × SV)) (bx : List (TypeId × List Value)) (R : List Res) (K : Act → World → Prop) (Q : Exit → Act → World → Prop) : Prop :=
  ∀ a w, Live n γ sl a → SAT A W0 γ bx R w → wp1 P ops Q o K a w

section
variable {P : Program} {A : Nat → Prop} {W0 : World} {n : Nat} {ops : Array Oper} {sl sl' : List (Nat × SV)} {bx bx' bx0 : List (TypeId × List Value)} {R R' Rc Rr Rin Rout Rk : List Res} {Q Q' : Exit → Act → World → Prop} {γ : List Nat} {K : Act → World → Prop}

theorem JG_step {o : Oper} (h : step1 P ops n sl bx o = some (sl', bx')) (k : ∀ δ, KG A W0 n (γ ++ δ) sl' bx' R K) : JG P A W0 n ops γ o sl bx R K Q := by
  intro a w hl hs
  unfold step1 at h
  split at h
  · rename_i hw
    split at h
    · rename_i x bx1 he
      split at h
      · rename_i sl1 hp
        simp only [Option.some.injEq, Prod.mk.injEq] at h
        obtain ⟨rfl, rfl⟩ := h
        obtain ⟨γ', w', nx, hr, hnx, hs', ⟨δ, rfl⟩, hin⟩ := evOp_ok hl hs he
        refine .inl ⟨wantedS_ok hl hw, ?_⟩
        unfold Oper.wp
        rw [hr]
        have hl' := (hl.ext δ).putS hp hin
        rcases hnx with rfl | ⟨rfl, hu⟩
        · exact k _ _ _ hl' hs'
        · rw [hu] at hl'; exact k _ _ _ hl' hs'
      · cases h
    · cases h
  · rename_i hw
    split at h
    · rename_i sl1 hp
      simp only [Option.some.injEq, Prod.mk.injEq] at h
      obtain ⟨rfl, rfl⟩ := h
      refine .inr ⟨wantedS_ok hl hw, ?_⟩
      have := k [] (a.put o.dst undef) w
      rw [List.append_nil] at this
      exact this (hl.putS hp trivial) hs
    · cases h
  · cases h

theorem JG_call {o : Oper} (hw : wantedS ops sl o = some true) {f : FuncId} {args : Array Value} (hc : evCall P sl o = some (f, args)) {τ : Type} {val : τ → Value} {res : τ → List Res}
    (h : ∀ w, SAT A W0 γ bx R w → Gives P f args w val res) (slF : τ → List (Nat × SV)) (hp : ∀ y, putS n sl o.dst (.v (val y)) = some (slF y)) (k : ∀ y, KG A W0 n γ (slF y) bx (res y ++ R) K) : JG P A W0 n ops γ o sl bx R K Q := by
  intro a w hl hs
  refine .inl ⟨wantedS_ok hl hw, ?_⟩
  unfold Oper.wp
  rw [evCall_ok hl hc w]
  refine (h w hs).mono ?_
  rintro e w' ⟨y, rfl, hb, hf⟩
  exact k y _ w' (hl.putS (hp y) trivial) (hs.call hb hf)

theorem JG_call0 {o : Oper} (hw : wantedS ops sl o = some true) {f : FuncId} {args : Array Value} (hc : evCall P sl o = some (f, args)) {x : Value}
    (h : ∀ w, SAT A W0 γ bx R w → Gives0 P f args w x) (hp : putS n sl o.dst (.v x) = some sl') (k : KG A W0 n γ sl' bx R K) : JG P A W0 n ops γ o sl bx R K Q := by
  intro a w hl hs
  refine .inl ⟨wantedS_ok hl hw, ?_⟩
  unfold Oper.wp
  rw [evCall_ok hl hc w]
  refine (h w hs).mono ?_
  rintro e w' ⟨rfl, hb⟩
  exact k _ w' (hl.putS hp trivial) (hs.below hb)

theorem JG_bslice {α : Type} [Rp α] {o : Oper} (hw : wantedS ops sl o = some true) {e : TypeId} {len : Nat} {cs : List Value} (he : evB P sl o = some (e, len, cs))
    {xs : List α} (hlen : xs.length = len) (hshort : Nat.ble xs.length 1000000 = true) (hR : Rc ++ Rr = R) (ho : ∀ w Fs, holdsAll w Rc Fs → ownL w Fs.flatten xs cs) (slF : Option Addr × Nat → List (Nat × SV))
    (hp : ∀ y : Option Addr × Nat, putS n sl o.dst (.v (.slice y.1 xs.length y.2)) = some (slF y)) (k : ∀ y : Option Addr × Nat, KG A W0 n γ (slF y) bx (SlRes e xs y.1 y.2 :: Rr) K) : JG P A W0 n ops γ o sl bx R K Q := by
  subst hR
  intro a w hl hs
  refine .inl ⟨wantedS_ok hl hw, ?_⟩
  unfold Oper.wp
  rw [evB_ok hl he]
  have hsub : len = xs.length := hlen.symm
  subst hsub
  have hold : ∀ k, k < w.heap.size → (w.alloc (.cells cs.toArray e)).heap[k]? = w.heap[k]? := fun k hk => Below.heap_alloc w _ k hk
  refine k (some ⟨w.heap.size, 0, none⟩, xs.length) _ _ (hl.putS (hp (some ⟨w.heap.size, 0, none⟩, xs.length)) trivial) ?_
  refine hs.swap rfl rfl rfl (by simp) fun Fs hFs hnd hlt => ?_
  have hst : holdsAll (w.alloc (.cells cs.toArray e)) Rc Fs := holdsAll_stable hFs (fun g hg => hold g (hlt g hg))
  have hown := ho _ Fs hst
  have hlen2 := ownL_len hown
  refine ⟨w.heap.size :: Fs.flatten, .inr ⟨w.heap.size, cs, Fs.flatten, cs.toArray, rfl, rfl, hown, heap_alloc_new w _, Nat.le_refl _, ?_, by simp [hlen2], ?_⟩, ?_, ?_, fun k hk _ => hold k hk⟩
  · have := Nat.le_of_ble_eq_true hshort; simp only [maxLen]; omega
  · rw [List.take_of_length_le (by simp [hlen2])]
  · rw [List.nodup_cons]
    exact ⟨fun hm => Nat.lt_irrefl _ (hlt _ hm), hnd⟩
  · intro g hg
    rw [List.mem_cons] at hg
    rcases hg with rfl | hg
    · exact .inr ⟨Nat.le_refl _, by simp⟩
    · exact .inl hg

theorem JG_appendR {α : Type} [Rp α] {o : Oper} (hw : wantedS ops sl o = some true) {t e : TypeId} {a1 a2 : Option Addr} {c1 c2 : Nat} {l1 l2 l3 : List α}
    (he : evApp P sl o = some (t, e, (a1, l1.length, c1), (a2, l2.length, c2))) {i : TypeInfo} (hi : P.info? e = some i) {z : Value} (hz : i.zero = some z) (hsz : i.size = Rp.sz α) (hzs : z.cells.size = Rp.sz α) (hby : Nat.ble i.bytes 128 = true)
    (hR : R = SlRes e l1 a1 c1 :: SlRes e l2 a2 c2 :: Rr) (h3 : appC l1 l2 = some l3) (slF : Option Addr × Nat → List (Nat × SV))
    (hp : ∀ y : Option Addr × Nat, putS n sl o.dst (.v (.slice y.1 l3.length y.2)) = some (slF y)) (k : ∀ y : Option Addr × Nat, KG A W0 n γ (slF y) bx (SlRes e l3 y.1 y.2 :: Rr) K) : JG P A W0 n ops γ o sl bx R K Q := by
  intro a w hl hs
  obtain ⟨rfl, hlim⟩ := appC_some h3
  have hRR : R = [SlRes e l1 a1 c1, SlRes e l2 a2 c2] ++ Rr := hR
  subst hRR
  obtain ⟨ht, hrun⟩ := evApp_ok hl he
  obtain ⟨Fs, hF, hnd, hlt, hback⟩ := hs.swapE
  obtain ⟨F1, Fs', rfl, b1, F2, Fs'', rfl, b2, b3⟩ := hF
  simp only [holdsAll] at b3
  subst b3
  have b1' : SlOwn e w F1 l1 a1 c1 := b1
  have b2' : SlOwn e w F2 l2 a2 c2 := b2
  have hv2 := b2'.view
  obtain ⟨xs2, F2', hown2, hc2, hsub2⟩ : ∃ xs2 F2', ownL w F2' l2 xs2 ∧ CellsAt w a2 0 xs2 ∧ F2'.Sublist F2 := by
    rcases b2' with ⟨rfl, _, rfl⟩ | ⟨g, xs, F', cur, rfl, rfl, h3', h4, h5, h6, h7, h8⟩
    · exact ⟨[], [], ⟨rfl, rfl⟩, fun j u hu => by simp at hu, List.Sublist.refl _⟩
    · refine ⟨xs, F', h3', fun j u hu => ⟨_, rfl, ?_⟩, List.sublist_cons_self g F'⟩
      rw [cell_of_row w g _ _ _ _ h4]
      rw [← h8, List.getElem?_take] at hu
      split at hu
      · simpa using hu
      · cases hu
  obtain ⟨a', c', w', hr, k1, k2, k3, k4, k5, k6⟩ := run_app (P := P) (ty := o.type) ht hi hz hsz hzs (Nat.le_of_ble_eq_true hby) b1' (ownL_len hown2) hc2 hv2.spot (ownL_one hown2) hlim
  have hnd12 : (F1 ++ F2).Nodup := by simpa using hnd
  have hlt12 : ∀ g ∈ F1 ++ F2, g < w.heap.size := fun g hg => hlt g (by simpa using hg)
  have hsubl : (F1 ++ F2').Sublist (F1 ++ F2) := List.Sublist.append_left hsub2 F1
  obtain ⟨F, hF1, hF2, hF3⟩ := k5 F2' hown2 (hnd12.sublist hsubl) (fun g hg => hlt12 g (hsubl.subset hg))
  refine .inl ⟨wantedS_ok hl hw, ?_⟩
  unfold Oper.wp
  rw [hrun, hr]
  refine k (a', c') _ w' (hl.putS (hp (a', c')) trivial) ?_
  refine hback w' _ F k1 k2 k3 k4 hF1 hF2 (fun g hg => ?_) (fun k hk hne => k6 k hk (fun hm => hne (by simp [hm])))
  rcases hF3 g hg with hm | hm
  · exact .inl (by simpa using hsubl.subset hm)
  · exact .inr hm

theorem JG_appendV {α : Type} [Flat α] {o : Oper} (hw : wantedS ops sl o = some true) {t e : TypeId} {a1 a2 : Option Addr} {c1 c2 : Nat} {l1 l2 l3 : List α}
    (he : evApp P sl o = some (t, e, (a1, l1.length, c1), (a2, l2.length, c2))) {i : TypeInfo} (hi : P.info? e = some i) {z : Value} (hz : i.zero = some z) (hsz : i.size = Rp.sz α) (hzs : z.cells.size = Rp.sz α) (hby : Nat.ble i.bytes 128 = true)
    (hv : ∀ w, SAT A W0 γ bx R w → ∃ cap, SlView w l2 a2 cap)
    (hR : R = SlRes e l1 a1 c1 :: Rr) (h3 : appC l1 l2 = some l3) (slF : Option Addr × Nat → List (Nat × SV))
    (hp : ∀ y : Option Addr × Nat, putS n sl o.dst (.v (.slice y.1 l3.length y.2)) = some (slF y)) (k : ∀ y : Option Addr × Nat, KG A W0 n γ (slF y) bx (SlRes e l3 y.1 y.2 :: Rr) K) : JG P A W0 n ops γ o sl bx R K Q := by
  intro a w hl hs
  obtain ⟨rfl, hlim⟩ := appC_some h3
  obtain ⟨cap, hv2⟩ := hv w hs
  have hRR : R = [SlRes e l1 a1 c1] ++ Rr := hR
  subst hRR
  obtain ⟨ht, hrun⟩ := evApp_ok hl he
  obtain ⟨Fs, hF, hnd, hlt, hback⟩ := hs.swapE
  obtain ⟨F1, Fs', rfl, b1, b3⟩ := hF
  simp only [holdsAll] at b3
  subst b3
  have b1' : SlOwn e w F1 l1 a1 c1 := b1
  obtain ⟨xs2, hx2, hc2⟩ := hv2.cells
  have hown2 : ownL w [] l2 xs2 := by rw [viewL_enc hx2]; exact ownL_enc w l2
  obtain ⟨a', c', w', hr, k1, k2, k3, k4, k5, k6⟩ := run_app (P := P) (ty := o.type) ht hi hz hsz hzs (Nat.le_of_ble_eq_true hby) b1' (ownL_len hown2) (fun j u hu => by simpa using hc2 j u hu) hv2.spot (ownL_one hown2) hlim
  have hnd12 : (F1 ++ []).Nodup := by simpa using hnd
  obtain ⟨F, hF1, hF2, hF3⟩ := k5 [] hown2 hnd12 (fun g hg => hlt g (by simpa using hg))
  refine .inl ⟨wantedS_ok hl hw, ?_⟩
  unfold Oper.wp
  rw [hrun, hr]
  refine k (a', c') _ w' (hl.putS (hp (a', c')) trivial) ?_
  refine hback w' _ F k1 k2 k3 k4 hF1 hF2 (fun g hg => ?_) (fun k hk hne => k6 k hk (fun hm => hne (by simp [hm])))
  rcases hF3 g hg with hm | hm
  · exact .inl (by simpa using hm)
  · exact .inr hm

/-! ### Whatever order -/

/-- What no operation of the region turns. -/
def HeldS (A : Nat → Prop) (W0 : World) (γ0 : List Nat) (ks : List Nat) (bx0 : List (TypeId × List Value)) (Rk : List Res) (w : World) : Prop :=
  Kept A W0 w ∧ BoxesIn ks γ0 bx0 w ∧ ∃ Fs, holdsAll w Rk Fs

theorem HeldS.kept {γ0 ks : List Nat} {w : World} (h : HeldS A W0 γ0 ks bx0 Rk w) : Kept A W0 w := h.1

theorem HeldS.view {α : Type} [Rp α] {γ0 ks : List Nat} {w : World} (h : HeldS A W0 γ0 ks bx0 Rk w) (i : Nat) {e : TypeId} {l : List α} {a : Option Addr} {cap : Nat} (hi : Rk[i]? = some (SlRes e l a cap)) : SlView w l a cap := by
  obtain ⟨Fs, hF⟩ := h.2.2
  obtain ⟨F, hh⟩ := holdsAll_mem hF hi
  exact SlOwn.view hh

/-- The state before the operations that have not come up yet. -/
def JH (P : Program) (A : Nat → Prop) (W0 : World) (n : Nat) (ops : Array Oper) (ks : List Nat) (bx0 : List (TypeId × List Value)) (Rk : List Res) (Q : Exit → Act → World → Prop) (fuel : Nat) (listed : Array Bool) (sl : List (Nat × SV)) (bx : List (TypeId × List Value)) (R : List Res) : Prop :=
  ∀ γ0 δ, γ0.length = bx0.length → ∀ a w, Live n (γ0 ++ δ) sl a → SAT A W0 (γ0 ++ δ) bx R w → wpAnyH P .any ops Q (HeldS A W0 γ0 ks bx0 Rk) fuel listed a w

/-- One operation that comes up. -/
def JHi (P : Program) (A : Nat → Prop) (W0 : World) (n : Nat) (ops : Array Oper) (ks : List Nat) (bx0 : List (TypeId × List Value)) (Rk : List Res) (Q : Exit → Act → World → Prop) (fuel : Nat) (listed : Array Bool) (sl : List (Nat × SV)) (bx : List (TypeId × List Value)) (R : List Res) (i : Nat) : Prop :=
  ∀ γ0 δ, γ0.length = bx0.length → ∀ a w, Live n (γ0 ++ δ) sl a → SAT A W0 (γ0 ++ δ) bx R w →
    wpOp P ops Q i (fun a' w' => HeldS A W0 γ0 ks bx0 Rk w' ∧ wpAnyH P .any ops Q (HeldS A W0 γ0 ks bx0 Rk) fuel (listed.setIfInBounds i true) a' w') a w

variable {ks : List Nat} {fuel : Nat} {listed listed' : Array Bool}

theorem heldOf {γ0 δ : List Nat} {w : World} {is : List Nat} (hm : γ0.length = bx0.length) (hs : SAT A W0 (γ0 ++ δ) bx R w) (hk : ks.map (bx[·]?) = ks.map (bx0[·]?)) (hb : ks.all (fun k => Nat.blt k bx0.length) = true) (hR : takeR is R = some Rk) : HeldS A W0 γ0 ks bx0 Rk w := by
  refine ⟨hs.kept, fun k e cs hkk hx => ?_, ?_⟩
  · have h1 : bx[k]? = bx0[k]? := by
      have := List.map_inj_left.1 hk k hkk
      exact this
    have h2 : k < bx0.length := Nat.le_of_ble_eq_true (List.all_eq_true.1 hb k hkk)
    have h3 := hs.boxes k e cs (by rw [h1]; exact hx)
    rwa [show (γ0 ++ δ).getD k 0 = γ0.getD k 0 by simp [List.getD, List.getElem?_append, hm, h2]] at h3
  · obtain ⟨Fs, h1, _⟩ := (hs.takeR hR).own
    exact ⟨Fs, h1⟩

theorem JC_held {id : Nat} (hm : P.follows .mixedOrders = true) (h : JH P A W0 n ops ks bx Rk Q ops.size (Array.replicate ops.size false) sl bx R) : JC P A W0 n (.region id ops true) sl bx R Q := by
  intro γ a w hl hs
  refine wp_region_held hm (S := HeldS A W0 γ ks bx Rk) ?_
  have := h γ [] hs.len a w.drew (by rw [List.append_nil]; exact hl) (by rw [List.append_nil]; exact hs.drew)
  exact this

theorem JH_all (rs : List Nat) (hr : Region.ready .any ops listed = rs) (hne : rs ≠ []) (h : ∀ i ∈ rs, JHi P A W0 n ops ks bx0 Rk Q fuel listed sl bx R i) : JH P A W0 n ops ks bx0 Rk Q (fuel + 1) listed sl bx R :=
  fun γ0 δ hm a w hl hs => wpAnyH_all hr hne fun i hi => h i hi γ0 δ hm a w hl hs

theorem JHi_of {i : Nat} {o : Oper} (hi : ops[i]? = some o)
    (h : ∀ γ0 δ, γ0.length = bx0.length → JG P A W0 n ops (γ0 ++ δ) o sl bx R (fun a' w' => HeldS A W0 γ0 ks bx0 Rk w' ∧ wpAnyH P .any ops Q (HeldS A W0 γ0 ks bx0 Rk) fuel (listed.setIfInBounds i true) a' w') Q) : JHi P A W0 n ops ks bx0 Rk Q fuel listed sl bx R i := by
  intro γ0 δ hm a w hl hs
  unfold wpOp
  rw [hi]
  rcases h γ0 δ hm a w hl hs with ⟨h1, h2⟩ | ⟨h1, h2⟩
  · simp only [h1, if_true]; exact .inl h2
  · simp only [h1, Bool.false_eq_true, if_false]; exact h2

theorem KG_next {γ0 δ : List Nat} (hm : γ0.length = bx0.length) (ks2 is2 : List Nat) (hkeep : keepS ks2 sl = some sl') (hk : ks.map (bx[·]?) = ks.map (bx0[·]?)) (hb : ks.all (fun k => Nat.blt k bx0.length) = true) (hR : takeR is2 R = some Rk)
    (k : JH P A W0 n ops ks bx0 Rk Q fuel listed sl' bx R) : KG A W0 n (γ0 ++ δ) sl bx R (fun a' w' => HeldS A W0 γ0 ks bx0 Rk w' ∧ wpAnyH P .any ops Q (HeldS A W0 γ0 ks bx0 Rk) fuel listed a' w') :=
  fun a w hl hs => ⟨heldOf hm hs hk hb hR, k γ0 δ hm a w (hl.keep hkeep) hs⟩

theorem KG_nextD {γ0 δ δ' : List Nat} (hm : γ0.length = bx0.length) (ks2 is2 : List Nat) (hkeep : keepS ks2 sl = some sl') (hk : ks.map (bx[·]?) = ks.map (bx0[·]?)) (hb : ks.all (fun k => Nat.blt k bx0.length) = true) (hR : takeR is2 R = some Rk)
    (k : JH P A W0 n ops ks bx0 Rk Q fuel listed sl' bx R) : KG A W0 n (γ0 ++ δ ++ δ') sl bx R (fun a' w' => HeldS A W0 γ0 ks bx0 Rk w' ∧ wpAnyH P .any ops Q (HeldS A W0 γ0 ks bx0 Rk) fuel listed a' w') := by
  rw [List.append_assoc]
  exact KG_next hm ks2 is2 hkeep hk hb hR k

/-- A quiet operation is taken first. -/
theorem JH_take (i : Nat) {o : Oper} {v : SV} (is : List Nat) (hi : ops[i]? = some o) (hns : Region.noSelect ops = true) (hf : Region.free .any ops listed i = true) (hrd : (Region.ready .any ops listed).contains i = true)
    (hQ : ∀ c a w, Q (.panic c) a w = False) (hw : wantedS ops sl o = some true) (hk : ks.map (bx[·]?) = ks.map (bx0[·]?)) (hb : ks.all (fun k => Nat.blt k bx0.length) = true) (hR : takeR is R = some Rk)
    (hin : v.inb bx0.length) (hy : ∀ γ0 δ a, γ0.length = bx0.length → Live n (γ0 ++ δ) sl a → ∀ w, HeldS A W0 γ0 ks bx0 Rk w → (execOp a.eval o).run P w = .ok (.value (v.den (γ0 ++ δ))) w)
    (hp : putS n sl o.dst v = some sl') (k : JH P A W0 n ops ks bx0 Rk Q fuel (listed.setIfInBounds i true) sl' bx R) : JH P A W0 n ops ks bx0 Rk Q (fuel + 1) listed sl bx R := by
  intro γ0 δ hm a w hl hs
  refine wpAnyH_take hi hns hf hrd (v := v.den (γ0 ++ δ)) (fun c a w h => by rw [hQ] at h; exact h.elim) (.inl ⟨wantedS_ok hl hw, hy γ0 δ a hm hl⟩) (heldOf hm hs hk hb hR) ?_
  exact k γ0 δ hm _ w (hl.putS hp (hin.mono (by simp; omega))) hs

theorem evQ_held {o : Oper} {v : SV} (h : evQ P ks sl bx0 o = some v) (hb : ks.all (fun k => Nat.blt k bx0.length) = true) : ∀ γ0 δ a, γ0.length = bx0.length → Live n (γ0 ++ δ) sl a → ∀ w, HeldS A W0 γ0 ks bx0 Rk w → (execOp a.eval o).run P w = .ok (.value (v.den (γ0 ++ δ))) w := by
  intro γ0 δ a hm hl w hs
  refine (evQ_ok hl h).2 w fun k e cs hk hx => ?_
  have h2 : k < bx0.length := Nat.le_of_ble_eq_true (List.all_eq_true.1 hb k hk)
  rw [show (γ0 ++ δ).getD k 0 = γ0.getD k 0 by simp [List.getD, List.getElem?_append, hm, h2]]
  exact hs.2.1 k e cs hk hx

theorem index_held {α : Type} [Rp α] {o : Oper} {d : Option Addr} {m : Nat} {j : Int} {s : Nat} (he : evIndex P sl o = some (d, m, j, s)) {xs : List α} {x : α} {cap : Nat} (hv : ∀ γ0 w, HeldS A W0 γ0 ks bx0 Rk w → SlView w xs d cap) (hm : m = xs.length) (hx : idx xs j = some x) :
    ∀ γ0 δ a, γ0.length = bx0.length → Live n (γ0 ++ δ) sl a → ∀ w, HeldS A W0 γ0 ks bx0 Rk w → (execOp a.eval o).run P w = .ok (.value (SV.den (γ0 ++ δ) (.q d (j.toNat * s)))) w := by
  intro γ0 δ a _ hl w hs
  obtain ⟨h0, h1, h2⟩ := idx_some hx
  have hv' := hv γ0 w hs
  exact evIndex_ok hl he h0 (by omega) (hv'.spot (fun e => by subst e; simp at h2)) (hv'.ne h2) w

theorem loadq_held {o : Oper} {t : TypeId} {d : Option Addr} (base off : Nat) (he : evLoadq P sl o = some (t, d, base + off)) {cs : List Value} {v : Value}
    (hc : ∀ γ0 w, HeldS A W0 γ0 ks bx0 Rk w → d ≠ none ∧ CellsAt w d base cs) (hv : partVal P t cs off = some v) :
    ∀ γ0 δ a, γ0.length = bx0.length → Live n (γ0 ++ δ) sl a → ∀ w, HeldS A W0 γ0 ks bx0 Rk w → (execOp a.eval o).run P w = .ok (.value (SV.den (γ0 ++ δ) (.v v))) w :=
  fun γ0 δ a _ hl w hs => evLoadq_ok hl he (hc γ0 w hs).1 (hc γ0 w hs).2 hv

theorem div_held {o : Oper} {op : BinOp} {k : IntKind} {x y : Int} (he : evDiv P sl o = some (op, k, x, y)) (hy : y ≠ 0) :
    ∀ γ0 δ a, γ0.length = bx0.length → Live n (γ0 ++ δ) sl a → ∀ w, HeldS A W0 γ0 ks bx0 Rk w → (execOp a.eval o).run P w = .ok (.value (SV.den (γ0 ++ δ) (.v (divVal op k x y)))) w :=
  fun γ0 δ a _ hl w _ => evDiv_ok hl he hy w

/-- All have come up. -/
theorem JH_done {τ : Type} {slF : τ → List (Nat × SV)} {bxF : τ → List (TypeId × List Value)} {RF : τ → List Res} (hr : Region.ready .any ops listed = []) (y : τ) (ks' is' : List Nat) (m : Nat)
    (hk : keepS ks' sl = some (slF y)) (hb : inbB m (slF y) = true) (hx : bx.take m = bxF y) (hR : takeR is' R = some (RF y)) :
    JH P A W0 n ops ks bx0 Rk (fun e a w => e = .normal ∧ Meet A W0 n slF bxF RF a w) fuel listed sl bx R :=
  fun γ0 δ _ a w hl hs => wpAnyH_done hr ⟨rfl, meet_of y ks' is' m hl hs hk hb hx hR⟩ fuel

/-! ### Boxes told in another order -/

def renSV (q : List Nat) : SV → SV
  | .p k off => .p (q.getD k 0) off
  | .f i ks => .f i (ks.map fun e => (q.getD e.1 0, e.2))
  | x => x

def renS (q : List Nat) : List (Nat × SV) → List (Nat × SV)
  | [] => []
  | (k, x) :: r => (k, renSV q x) :: renS q r

theorem look_renS (q : List Nat) : ∀ (l : List (Nat × SV)) (t : Nat), look (renS q l) t = (look l t).map (renSV q)
  | [], t => rfl
  | (k, x) :: r, t => by
    simp only [renS, look]
    cases Nat.beq k t
    · simpa using look_renS q r t
    · rfl

def permB (m : Nat) (p q : List Nat) : Bool := Nat.beq p.length m && (Nat.beq q.length m && ((List.range m).all (fun k => Nat.blt (q.getD k 0) m && Nat.beq (p.getD (q.getD k 0) 0) k) && (p.all (fun i => Nat.blt i m) && (List.range m).all (fun k => Nat.beq (q.getD (p.getD k 0) 0) k))))

theorem permB_ok {m : Nat} {p q : List Nat} (h : permB m p q = true) : p.length = m ∧ q.length = m ∧ (∀ k, k < m → q.getD k 0 < m ∧ p.getD (q.getD k 0) 0 = k) ∧ (∀ i ∈ p, i < m) ∧ ∀ k, k < m → q.getD (p.getD k 0) 0 = k := by
  simp only [permB, Bool.and_eq_true, List.all_eq_true, List.mem_range] at h
  obtain ⟨h1, h2, h3, h4, h5⟩ := h
  exact ⟨Nat.eq_of_beq_eq_true h1, Nat.eq_of_beq_eq_true h2, fun k hk => ⟨Nat.le_of_ble_eq_true (h3 k hk).1, Nat.eq_of_beq_eq_true (h3 k hk).2⟩, fun i hi => Nat.le_of_ble_eq_true (h4 i hi), fun k hk => Nat.eq_of_beq_eq_true (h5 k hk)⟩

theorem getD_map_of {α : Type} (f : Nat → α) (d : α) {p : List Nat} {i : Nat} (h : i < p.length) : (p.map f).getD i d = f (p.getD i 0) := by
  simp [List.getD, h]

theorem Live.perm {γ : List Nat} {a : Act} (hl : Live n γ sl a) {p q : List Nat} (h : permB γ.length p q = true) : Live n (p.map (γ.getD · 0)) (renS q sl) a := by
  obtain ⟨h1, h2, h3, h4, h5⟩ := permB_ok h
  have key : ∀ k, k < γ.length → (p.map (γ.getD · 0)).getD (q.getD k 0) 0 = γ.getD k 0 := fun k hk => by
    rw [getD_map_of _ _ (by rw [h1]; exact (h3 k hk).1), (h3 k hk).2]
  refine ⟨hl.defers, hl.size, fun t x hx => ?_, fun t x hx => ?_⟩
  · rw [look_renS] at hx
    cases hs : look sl t with
    | none => simp [hs] at hx
    | some y =>
      simp only [hs, Option.map_some, Option.some.injEq] at hx
      subst hx
      have hin := hl.inb t y hs
      rw [hl.slot t y hs]
      congr 1
      cases y with
      | v z => rfl
      | p k off => simp only [renSV, SV.den]; rw [key k hin]
      | q b k => rfl
      | f i ks =>
        simp only [renSV, SV.den, List.map_map]
        congr 2
        refine List.map_congr_left fun e he => ?_
        simp only [Function.comp]
        rw [key e.1 (hin e he)]
  · rw [look_renS] at hx
    cases hs : look sl t with
    | none => simp [hs] at hx
    | some y =>
      simp only [hs, Option.map_some, Option.some.injEq] at hx
      subst hx
      have hin := hl.inb t y hs
      have hlen : (p.map (γ.getD · 0)).length = γ.length := by simp [h1]
      rw [hlen]
      cases y with
      | v z => trivial
      | p k off => exact (h3 k hin).1
      | q b k => trivial
      | f i ks =>
        intro e he
        simp only [List.mem_map] at he
        obtain ⟨e', he', rfl⟩ := he
        exact (h3 e'.1 (hin e' he')).1

def permBx (p : List Nat) (bx : List (TypeId × List Value)) : List (TypeId × List Value) := p.map fun i => bx.getD i (0, [])

theorem SAT.perm {γ : List Nat} {w : World} (hs : SAT A W0 γ bx R w) {p q : List Nat} (h : permB γ.length p q = true) : SAT A W0 (p.map (γ.getD · 0)) (permBx p bx) R w := by
  obtain ⟨h1, h2, h3, h4, h5⟩ := permB_ok h
  have hlen := hs.len
  have hperm : (p.map (γ.getD · 0)).Perm γ := by
    have hp : p.Perm (List.range γ.length) := by
      refine (List.perm_ext_iff_of_nodup ?_ List.nodup_range).2 fun i => ?_
      · rw [List.nodup_iff_pairwise_ne, List.pairwise_iff_getElem]
        intro i j hi hj hij e
        have e1 := h5 i (by omega)
        have e2 := h5 j (by omega)
        simp only [List.getD_eq_getElem?_getD, List.getElem?_eq_getElem hi, List.getElem?_eq_getElem hj, Option.getD_some] at e1 e2
        rw [e] at e1
        omega
      · rw [List.mem_range]
        refine ⟨h4 i, fun hi => ?_⟩
        obtain ⟨g1, g2⟩ := h3 i hi
        rw [← h1] at g1
        rw [List.getD_eq_getElem?_getD, List.getElem?_eq_getElem g1, Option.getD_some] at g2
        rw [← g2]
        exact List.getElem_mem _
    have h6 := hp.map (γ.getD · 0)
    have h7 : (List.range γ.length).map (γ.getD · 0) = γ := by
      apply List.ext_getElem
      · simp
      · intro i a1 a2
        simp [List.getD, a2]
    rw [h7] at h6
    exact h6
  refine ⟨hs.kept, by simp [permBx], ?_, ?_⟩
  · intro k e cs hk
    simp only [permBx, List.getElem?_map] at hk
    cases hpk : p[k]? with
    | none => simp [hpk] at hk
    | some i =>
      have hi := h4 i (List.mem_of_getElem? hpk)
      have hkl := (List.getElem?_eq_some_iff.1 hpk).1
      simp only [hpk, Option.map_some, Option.some.injEq] at hk
      have hb := hs.boxes i e cs (by
        rw [List.getD_eq_getElem?_getD, List.getElem?_eq_getElem (by omega), Option.getD_some] at hk
        rw [List.getElem?_eq_getElem (by omega), hk])
      have e1 : p.getD k 0 = i := by rw [List.getD_eq_getElem?_getD, hpk]; rfl
      rw [getD_map_of _ _ hkl, e1]
      exact hb
  · obtain ⟨Fs, g1, g2, g3⟩ := hs.own
    have hp2 : (p.map (γ.getD · 0) ++ Fs.flatten).Perm (γ ++ Fs.flatten) := hperm.append_right _
    exact ⟨Fs, g1, hp2.nodup_iff.2 g2, fun g hg => g3 g (hp2.mem_iff.1 hg)⟩

theorem JH_doneP {τ : Type} {slF : τ → List (Nat × SV)} {bxF : τ → List (TypeId × List Value)} {RF : τ → List Res} (hr : Region.ready .any ops listed = []) (y : τ) (ks' is' : List Nat) (m : Nat) (p q : List Nat) (hpq : permB bx.length p q = true)
    (hk : keepS ks' (renS q sl) = some (slF y)) (hb : inbB m (slF y) = true) (hx : (permBx p bx).take m = bxF y) (hR : takeR is' R = some (RF y)) :
    JH P A W0 n ops ks bx0 Rk (fun e a w => e = .normal ∧ Meet A W0 n slF bxF RF a w) fuel listed sl bx R :=
  fun γ0 δ _ a w hl hs => wpAnyH_done hr ⟨rfl, meet_of y ks' is' m (hl.perm (by rw [hs.len]; exact hpq)) (hs.perm (by rw [hs.len]; exact hpq)) hk hb hx hR⟩ fuel

/-- A panic is no such end. -/
theorem meet_nopanic {τ : Type} {slF : τ → List (Nat × SV)} {bxF : τ → List (TypeId × List Value)} {RF : τ → List Res} : ∀ c a w, (fun e a w => e = Exit.normal ∧ Meet A W0 n slF bxF RF a w) (.panic c) a w = False := by
  intro c a w
  simp

theorem JH_keep (ks2 : List Nat) (hkeep : keepS ks2 sl = some sl') (k : JH P A W0 n ops ks bx0 Rk Q fuel listed sl' bx R) : JH P A W0 n ops ks bx0 Rk Q fuel listed sl bx R :=
  fun γ0 δ hm a w hl hs => k γ0 δ hm a w (hl.keep hkeep) hs

theorem JH_listed (h : listed = listed') (k : JH P A W0 n ops ks bx0 Rk Q fuel listed' sl bx R) : JH P A W0 n ops ks bx0 Rk Q fuel listed sl bx R := by subst h; exact k

theorem JH_res (is : List Nat) (hR : takeR is R = some R') (k : JH P A W0 n ops ks bx0 Rk Q fuel listed sl bx R') : JH P A W0 n ops ks bx0 Rk Q fuel listed sl bx R :=
  fun γ0 δ hm a w hl hs => k γ0 δ hm a w hl (hs.takeR hR)

theorem JH_addnil {α : Type} [Rp α] (e : TypeId) (nl : List α) (hn : nl = []) (k : JH P A W0 n ops ks bx0 Rk Q fuel listed sl bx (SlRes e nl none 0 :: R)) : JH P A W0 n ops ks bx0 Rk Q fuel listed sl bx R :=
  fun γ0 δ hm a w hl hs => k γ0 δ hm a w hl (hs.addEmpty (.inl ⟨hn, rfl, rfl⟩))

theorem JC_heldN {id : Nat} (N : Nat) (hm : P.follows .mixedOrders = true) (hN : ops.size = N) (h : JH P A W0 n ops ks bx Rk Q N (Array.replicate N false) sl bx R) : JC P A W0 n (.region id ops true) sl bx R Q := by
  subst hN
  exact JC_held hm h

theorem JHi_res {i : Nat} (is : List Nat) (hR : takeR is R = some R') (k : JHi P A W0 n ops ks bx0 Rk Q fuel listed sl bx R' i) : JHi P A W0 n ops ks bx0 Rk Q fuel listed sl bx R i :=
  fun γ0 δ hm a w hl hs => k γ0 δ hm a w hl (hs.takeR hR)

theorem JHi_addnil {α : Type} [Rp α] {i : Nat} (e : TypeId) (nl : List α) (hn : nl = []) (k : JHi P A W0 n ops ks bx0 Rk Q fuel listed sl bx (SlRes e nl none 0 :: R) i) : JHi P A W0 n ops ks bx0 Rk Q fuel listed sl bx R i :=
  fun γ0 δ hm a w hl hs => k γ0 δ hm a w hl (hs.addEmpty (.inl ⟨hn, rfl, rfl⟩))

/-! ### Bits; a slice's head -/

def and64 (x y : Int) : Int := w64 ((BitVec.ofInt 64 x &&& BitVec.ofInt 64 y).toNat : Int)
def xor64 (x y : Int) : Int := w64 ((BitVec.ofInt 64 x ^^^ BitVec.ofInt 64 y).toNat : Int)
def or64 (x y : Int) : Int := w64 ((BitVec.ofInt 64 x ||| BitVec.ofInt 64 y).toNat : Int)

/-- The first elements, if there are so many. -/
def headL {α : Type} (l : List α) (n : Int) : Option (List α) := if 0 ≤ n ∧ n ≤ (l.length : Int) then some (l.take n.toNat) else none

theorem headL_some {α : Type} {l l' : List α} {n : Int} (h : headL l n = some l') : l' = l.take n.toNat ∧ 0 ≤ n ∧ n ≤ (l.length : Int) ∧ l'.length = n.toNat := by
  unfold headL at h
  split at h
  · rename_i hb
    simp only [Option.some.injEq] at h
    subst h
    exact ⟨rfl, hb.1, hb.2, by simp; omega⟩
  · cases h

theorem viewL_take {α : Type} [Rp α] {w : World} : ∀ {l : List α} {xs : List Value} (k : Nat), viewL w l xs → viewL w (l.take k) (xs.take (k * Rp.sz α))
  | [], xs, k, h => by
    have h' : xs = [] := h
    subst h'
    simp only [List.take_nil]
    rfl
  | x :: l, xs, 0, h => by simp only [List.take_zero, Nat.zero_mul]; rfl
  | x :: l, xs, k + 1, ⟨c1, c2, hx, h1, h2⟩ => by
    have hl := Rp.view_len h1
    refine ⟨c1, c2.take (k * Rp.sz α), ?_, h1, viewL_take k h2⟩
    rw [hx, Nat.succ_mul, Nat.add_comm, ← hl, List.take_append, List.take_of_length_le (by omega)]
    congr 2
    omega

theorem SlView.head {α : Type} [Rp α] {w : World} {l l' : List α} {a : Option Addr} {cap : Nat} {n : Int} (h : SlView w l a cap) (hn : headL l n = some l') : SlView w l' a cap := by
  obtain ⟨rfl, h0, h1, h2⟩ := headL_some hn
  obtain ⟨k1, ⟨xs, k2, k3⟩, k4, k5⟩ := h
  refine ⟨fun hne => k1 (fun e => by subst e; simp at hne), ⟨_, viewL_take _ k2, fun j u hu => ?_⟩, k4, by omega⟩
  rw [List.getElem?_take] at hu
  split at hu
  · exact k3 j u hu
  · cases hu

def evHead (P : Program) (sl : List (Nat × SV)) (o : Oper) : Option (Option Addr × Nat × Nat × Int) :=
  match o.op with
  | .slice t x none (some hi) none => match P.underlying t, opV sl x, opV sl hi with
    | some (.slice e), some (.slice a n c), some (.int _ h) => match P.info? e with
      | some _ => some (a, n, c, h)
      | none => none
    | _, _, _ => none
  | _ => none

theorem JO_head {α : Type} [Rp α] {l rest : List Oper} {o : Oper} (hl : l = o :: rest) (hw : wantedS ops sl o = some true) {a0 : Option Addr} {n0 c0 : Nat} {hi : Int} (he : evHead P sl o = some (a0, n0, c0, hi)) {xs xs' : List α}
    (hx : headL xs hi = some xs') (hfit : xs.length ≤ c0) (hp : putS n sl o.dst (.v (.slice a0 xs'.length c0)) = some sl') (k : JO P A W0 n ops rest sl' bx R Q) : JO P A W0 n ops l sl bx R Q := by
  subst hl
  intro γ a w hl hs
  obtain ⟨_, h0, h1, h2⟩ := headL_some hx
  have hr : (execOp a.eval o).run P w = .ok (.value (.slice a0 xs'.length c0)) w := by
    obtain ⟨dst, op, type, pos, after, guard⟩ := o
    unfold evHead at he
    split at he
    · rename_i t x h' hop
      simp only at hop
      subst hop
      split at he
      · rename_i e a1 n1 c1 kk hh ht hx' hh'
        split at he
        · rename_i inf hinf
          simp only [Option.some.injEq, Prod.mk.injEq] at he
          obtain ⟨rfl, rfl, rfl, rfl⟩ := he
          have hel : P.elem t = e := by simp [Program.elem, ht]
          have hb : hh ≤ (c1 : Int) := by omega
          have := run_slice_h (P := P) (w := w) t a1 n1 c1 (by rw [hel]; exact ht) kk hh h0 hb
          rw [hel] at this
          simp only [execOp, Option.map_none, Option.map_some, hl.evalV hx', hl.evalV hh', Sem.run_bind]
          have h3 : (Instr.sliceAt t (.slice a1 n1 c1) none (some (.int kk hh)) none).run P w = (Instr.slice t (.slice a1 n1 c1) none (some (.int kk hh)) none).run P w := by simp [Instr.sliceAt, run_underlying ht]
          rw [h3, this]
          simp [sizeOf, typeInfo, hinf, sliced, h2]
          intro _
          cases a1 <;> simp [Addr.add]
        · cases he
      · cases he
    · cases he
  unfold wpList
  rw [if_pos (wantedS_ok hl hw)]
  refine .inl ?_
  unfold Oper.wp
  rw [hr]
  exact k γ _ w (hl.putS hp trivial) hs

theorem evHead_run {α : Type} {o : Oper} {sl : List (Nat × SV)} {γ : List Nat} {a : Act} {n : Nat} (hl : Live n γ sl a) {a0 : Option Addr} {n0 c0 : Nat} {hi : Int} (he : evHead P sl o = some (a0, n0, c0, hi)) {xs xs' : List α} (hx : headL xs hi = some xs') (hfit : xs.length ≤ c0) (w : World) :
    (execOp a.eval o).run P w = .ok (.value (.slice a0 xs'.length c0)) w := by
  obtain ⟨_, h0, h1, h2⟩ := headL_some hx
  obtain ⟨dst, op, type, pos, after, guard⟩ := o
  unfold evHead at he
  split at he
  · rename_i t x h' hop
    simp only at hop
    subst hop
    split at he
    · rename_i e a1 n1 c1 kk hh ht hx' hh'
      split at he
      · rename_i inf hinf
        simp only [Option.some.injEq, Prod.mk.injEq] at he
        obtain ⟨rfl, rfl, rfl, rfl⟩ := he
        have hel : P.elem t = e := by simp [Program.elem, ht]
        have hb : hh ≤ (c1 : Int) := by omega
        have := run_slice_h (P := P) (w := w) t a1 n1 c1 (by rw [hel]; exact ht) kk hh h0 hb
        rw [hel] at this
        simp only [execOp, Option.map_none, Option.map_some, hl.evalV hx', hl.evalV hh', Sem.run_bind]
        have h3 : (Instr.sliceAt t (.slice a1 n1 c1) none (some (.int kk hh)) none).run P w = (Instr.slice t (.slice a1 n1 c1) none (some (.int kk hh)) none).run P w := by simp [Instr.sliceAt, run_underlying ht]
        rw [h3, this]
        simp [sizeOf, typeInfo, hinf, sliced, h2]
        intro _
        cases a1 <;> simp [Addr.add]
      · cases he
    · cases he
  · cases he

theorem head_held {α : Type} [Rp α] {o : Oper} {a0 : Option Addr} {n0 c0 : Nat} {hi : Int} (he : evHead P sl o = some (a0, n0, c0, hi)) {xs xs' : List α} (hx : headL xs hi = some xs') (hv : ∀ γ0 w, HeldS A W0 γ0 ks bx0 Rk w → SlView w xs a0 c0) :
    ∀ γ0 δ a, γ0.length = bx0.length → Live n (γ0 ++ δ) sl a → ∀ w, HeldS A W0 γ0 ks bx0 Rk w → (execOp a.eval o).run P w = .ok (.value (SV.den (γ0 ++ δ) (.v (.slice a0 xs'.length c0)))) w :=
  fun γ0 δ a _ hl w hs => evHead_run hl he hx (hv γ0 w hs).fit w

theorem JG_index {α : Type} [Rp α] {o : Oper} (hw : wantedS ops sl o = some true) {d : Option Addr} {m : Nat} {j : Int} {s : Nat} (he : evIndex P sl o = some (d, m, j, s))
    {xs : List α} {x : α} {cap : Nat} (hv : ∀ w, SAT A W0 γ bx R w → SlView w xs d cap) (hm : m = xs.length) (hx : idx xs j = some x)
    (hp : putS n sl o.dst (.q d (j.toNat * s)) = some sl') (kk : KG A W0 n γ sl' bx R K) : JG P A W0 n ops γ o sl bx R K Q := by
  subst hm
  intro a w hl hs
  obtain ⟨h0, h1, h2⟩ := idx_some hx
  have hv' := hv w hs
  refine .inl ⟨wantedS_ok hl hw, ?_⟩
  unfold Oper.wp
  rw [evIndex_ok hl he h0 h1 (hv'.spot (fun e => by subst e; simp at h2)) (hv'.ne h2)]
  exact kk _ w (hl.putS hp trivial) hs

theorem JG_loadq {o : Oper} (hw : wantedS ops sl o = some true) {t : TypeId} {d : Option Addr} (base off : Nat) (he : evLoadq P sl o = some (t, d, base + off)) {cs : List Value} {v : Value}
    (hc : ∀ w, SAT A W0 γ bx R w → d ≠ none ∧ CellsAt w d base cs) (hv : partVal P t cs off = some v) (hp : putS n sl o.dst (.v v) = some sl') (kk : KG A W0 n γ sl' bx R K) : JG P A W0 n ops γ o sl bx R K Q := by
  intro a w hl hs
  refine .inl ⟨wantedS_ok hl hw, ?_⟩
  unfold Oper.wp
  rw [evLoadq_ok hl he (hc w hs).1 (hc w hs).2 hv]
  exact kk _ w (hl.putS hp trivial) hs

theorem JG_storeq {α : Type} [Rp α] {o : Oper} (hw : wantedS ops sl o = some true) {d : Option Addr} {vs : List Value} {xs xs' : List α} {j : Int} {x x' : α} (off : Nat) (he : evStoreq P sl o = some (d, j.toNat * Rp.sz α + off, vs))
    (hx : idx xs j = some x) {e : TypeId} {cap : Nat} (hR : R = Rc ++ SlRes e xs d cap :: Rr) (hfit : Nat.ble (off + vs.length) (Rp.sz α) = true)
    (ho : ∀ w c F Fs, Rp.own w F x c → holdsAll w Rc Fs → (F ++ Fs.flatten).Nodup → ∃ G, Rp.own w G x' (writeAt c off vs) ∧ G.Nodup ∧ ∀ g ∈ G, g ∈ F ++ Fs.flatten)
    (hs' : xs' = xs.set j.toNat x') (hp : putS n sl o.dst (.v undef) = some sl') (kk : KG A W0 n γ sl' bx (SlRes e xs' d cap :: Rr) K) : JG P A W0 n ops γ o sl bx R K Q := by
  subst hR hs'
  intro a w hl hs
  obtain ⟨h0, h1, h2⟩ := idx_some hx
  have hs2 : SAT A W0 γ bx ((Rc ++ [SlRes e xs d cap]) ++ Rr) w := by simpa using hs
  obtain ⟨Fs, hF, hnd, hlt, hback⟩ := hs2.swapE
  obtain ⟨Fc, Fx, rfl, b1, b2⟩ := holdsAll_split hF
  obtain ⟨FX, Fs', rfl, b3, b4⟩ := b2
  simp only [holdsAll] at b4
  subst b4
  have b3' : SlOwn e w FX xs d cap := b3
  rcases b3' with ⟨rfl, _, _⟩ | ⟨g, ys, F', cur, rfl, rfl, c1, c2, c3, c4, c5, c6⟩
  · simp at h2
  · have hyl := ownL_len c1
    have hj : j.toNat < xs.length := (List.getElem?_eq_some_iff.1 h2).1
    have hfit' := Nat.le_of_ble_eq_true hfit
    have hspan : (j.toNat + 1) * Rp.sz α ≤ xs.length * Rp.sz α := Nat.mul_le_mul_right _ hj
    have hspan2 : xs.length * Rp.sz α ≤ cap * Rp.sz α := Nat.mul_le_mul_right _ c3
    rw [Nat.succ_mul] at hspan
    have hrun := evStoreq_ok (w := w) (cur := cur) (e := e) hl he c2 (by omega)
    rw [Nat.zero_add] at hrun
    obtain ⟨F1, F2, F3, c, k1, k2, k3, k4⟩ := ownL_set c1 h2
    have hcl := Rp.own_len k2
    generalize hw' : w.setRow g (cur.toList.take (j.toNat * Rp.sz α + off) ++ vs ++ cur.toList.drop (j.toNat * Rp.sz α + off + vs.length)).toArray = w' at hrun
    have hother : ∀ k, k ≠ g → w'.heap[k]? = w.heap[k]? := fun k hk => by rw [← hw']; exact setRow_other w g k _ hk
    simp only [List.flatten_append, List.flatten_cons, List.flatten_nil, List.append_nil] at hnd hlt
    rw [k1] at hnd hlt
    have hnd0 := hnd
    rw [List.nodup_append] at hnd0
    obtain ⟨n1, n2, n3⟩ := hnd0
    rw [List.nodup_cons] at n2
    obtain ⟨n4, n5⟩ := n2
    have hg1 : ∀ k ∈ Fc.flatten, k ≠ g := fun k hk e => n3 k hk g (by simp) e
    have hg2 : ∀ k ∈ F1 ++ (F2 ++ F3), k ≠ g := fun k hk e => n4 (e ▸ hk)
    have own2 : Rp.own w' F2 x c := Rp.own_stable k2 (fun k hk => hother k (hg2 k (by simp [hk])))
    have ownc : holdsAll w' Rc Fc := holdsAll_stable b1 (fun k hk => hother k (hg1 k hk))
    have sub2 : F2.Nodup := (List.nodup_append.1 (List.nodup_append.1 n5).2.1).1
    have d2 : (F2 ++ Fc.flatten).Nodup := by
      rw [List.nodup_append]
      exact ⟨sub2, n1, fun p hp q hq e => n3 q hq p (by simp [hp]) e.symm⟩
    obtain ⟨G, o1, o2, o3⟩ := ho w' c F2 Fc own2 ownc d2
    have own' := k4 w' G x' _ o1 (fun k hk => hother k (hg2 k (by simp only [List.mem_append] at hk ⊢; rcases hk with hk | hk; exact .inl hk; exact .inr (.inr hk))))
    have hgl : w'.heap[g]? = some (.cells (cur.toList.take (j.toNat * Rp.sz α + off) ++ vs ++ cur.toList.drop (j.toNat * Rp.sz α + off + vs.length)).toArray e (0, 0)) := by rw [← hw']; exact setRow_heap w g cur _ e _ c2
    have hnF : (F1 ++ (G ++ F3)).Nodup := by
      rw [List.nodup_append, List.nodup_append]
      rw [List.nodup_append, List.nodup_append] at n5
      obtain ⟨m1, ⟨m2, m3, m4⟩, m5⟩ := n5
      refine ⟨m1, ⟨o2, m3, fun p hp q hq e => ?_⟩, fun p hp q hq e => ?_⟩
      · have := o3 p hp
        rw [List.mem_append] at this
        rcases this with h | h
        · exact m4 p h q hq e
        · exact n3 p h q (by simp [hq]) e
      · rw [List.mem_append] at hq
        rcases hq with hq | hq
        · have := o3 q hq
          rw [List.mem_append] at this
          rcases this with h | h
          · exact m5 p hp q (by simp [h]) e
          · exact n3 q h p (by simp [hp]) e.symm
        · exact m5 p hp q (by simp [hq]) e
    have hsubF : ∀ k ∈ F1 ++ (G ++ F3), k ∈ Fc.flatten ∨ k ∈ F1 ++ (F2 ++ F3) := by
      intro k hk
      rw [List.mem_append, List.mem_append] at hk
      rcases hk with hk | hk | hk
      · exact .inr (by simp [hk])
      · have := o3 k hk
        rw [List.mem_append] at this
        rcases this with h | h
        · exact .inr (by simp [h])
        · exact .inl h
      · exact .inr (by simp [hk])
    refine .inl ⟨wantedS_ok hl hw, ?_⟩
    unfold Oper.wp
    rw [hrun]
    refine kk _ w' (hl.putS hp trivial) ?_
    refine hback w' _ (g :: (F1 ++ (G ++ F3))) (by rw [← hw']; rfl) (by rw [← hw']; rfl) (by rw [← hw']; rfl) (by rw [← hw']; simp) (.inr ⟨g, _, _, _, rfl, rfl, own', hgl, by simpa using c3, c4, ?_, ?_⟩) ?_ ?_ ?_
    · simp only [List.size_toArray, List.length_append, List.length_take, List.length_drop, Array.length_toList, c5]
      omega
    · -- the cells
      have hcur : cur.toList.take (xs.length * Rp.sz α) = ys := c6
      have hcurlen : cur.toList.length = cap * Rp.sz α := by simpa using c5
      apply List.ext_getElem?
      intro q
      have hya : ∀ q, q < xs.length * Rp.sz α → cur.toList[q]? = ys[q]? := fun q hq => by rw [← hcur, List.getElem?_take, if_pos hq]
      rw [List.length_set, List.getElem?_take]
      generalize hJ : j.toNat * Rp.sz α = J at *
      generalize hN : xs.length * Rp.sz α = N at *
      by_cases hq : q < N
      · rw [if_pos hq]
        simp only [List.append_assoc]
        by_cases q1 : q < J + off
        · rw [List.getElem?_append_left (by simp; omega), List.getElem?_take, if_pos q1, hya q hq]
          by_cases q2 : q < J
          · rw [List.getElem?_append_left (by simp; omega), List.getElem?_take, if_pos q2]
          · rw [List.getElem?_append_right (by simp; omega), List.getElem?_append_left (by simp [writeAt]; omega)]
            have := k3 (q - J) (by omega)
            rw [show J + (q - J) = q by omega] at this
            rw [this]
            unfold writeAt
            rw [List.length_take, Nat.min_eq_left (by omega), List.append_assoc, List.getElem?_append_left (by simp; omega), List.getElem?_take, if_pos (by omega)]
        · rw [List.getElem?_append_right (by simp; omega), List.length_take, Nat.min_eq_left (by omega)]
          by_cases q2 : q < J + off + vs.length
          · rw [List.getElem?_append_left (by omega)]
            rw [List.getElem?_append_right (by simp; omega), List.getElem?_append_left (by simp [writeAt]; omega)]
            unfold writeAt
            rw [List.length_take, Nat.min_eq_left (by omega), List.append_assoc, List.getElem?_append_right (by simp; omega), List.length_take, Nat.min_eq_left (by omega), List.getElem?_append_left (by omega)]
            congr 1; omega
          · rw [List.getElem?_append_right (by omega), List.getElem?_drop, show J + off + vs.length + (q - (J + off) - vs.length) = q by omega, hya q hq]
            by_cases q3 : q < J + Rp.sz α
            · rw [List.getElem?_append_right (by simp; omega), List.length_take, Nat.min_eq_left (by omega), List.getElem?_append_left (by simp [writeAt]; omega)]
              have := k3 (q - J) (by omega)
              rw [show J + (q - J) = q by omega] at this
              rw [this]
              unfold writeAt
              rw [List.append_assoc, List.getElem?_append_right (by simp; omega), List.length_take, Nat.min_eq_left (by omega), List.getElem?_append_right (by omega), List.getElem?_drop]
              congr 1; omega
            · rw [List.getElem?_append_right (by simp; omega), List.length_take, Nat.min_eq_left (by omega), List.getElem?_append_right (by simp [writeAt]; omega), List.getElem?_drop]
              congr 1
              simp [writeAt]; omega
      · rw [if_neg hq, List.getElem?_eq_none (by simp [writeAt]; omega)]
    · rw [List.nodup_cons]
      refine ⟨fun hm => ?_, hnF⟩
      rcases hsubF g hm with h | h
      · exact hg1 g h rfl
      · exact hg2 g h rfl
    · intro q hq
      refine .inl ?_
      simp only [List.flatten_append, List.flatten_cons, List.flatten_nil, List.append_nil, List.mem_append]
      rw [List.mem_cons] at hq
      rcases hq with rfl | hq
      · exact .inr (by simp)
      · rcases hsubF q hq with h | h
        · exact .inl h
        · exact .inr (by rw [k1]; simp only [List.mem_cons]; exact .inr h)
    · intro q hq hne
      refine hother q (fun e => hne ?_)
      subst e
      simp

theorem JG_div {o : Oper} (hw : wantedS ops sl o = some true) {op : BinOp} {k : IntKind} {x y : Int} (he : evDiv P sl o = some (op, k, x, y)) (hy : y ≠ 0)
    (hp : putS n sl o.dst (.v (divVal op k x y)) = some sl') (kk : KG A W0 n γ sl' bx R K) : JG P A W0 n ops γ o sl bx R K Q := by
  intro a w hl hs
  refine .inl ⟨wantedS_ok hl hw, ?_⟩
  unfold Oper.wp
  rw [evDiv_ok hl he hy]
  exact kk _ w (hl.putS hp trivial) hs

theorem KG_eqE (h1 : sl = sl') (h2 : bx = bx') (k : KG A W0 n γ sl' bx' R K) : KG A W0 n γ sl bx R K := by subst h1 h2; exact k

end
end Go.Pen
