/-
  The rules under short names; what the checker finds by itself is left to it.
-/
import Derived.Test.YtmhjpbpdbdjiaaaDoorPenI
namespace Go.Pen
open Go.RowKit
set_option linter.unusedVariables false

section
variable {P : Program} {A : Nat → Prop} {W0 : World} {n : Nat} {ops : Array Oper} {sl sl' : List (Nat × SV)} {bx bx' bx0 : List (TypeId × List Value)} {R R' Rc Rr Rin Rout Rk : List Res} {Q Q' : Exit → Act → World → Prop} {γ : List Nat} {K : Act → World → Prop}
variable {ks : List Nat} {fuel : Nat} {listed listed' : Array Bool}

theorem oN {l : List Oper} (k : Nat) (new : List (Nat × SV)) (ks : List Nat) {old : List (Nat × SV)} (K : JO P A W0 n ops (l.drop k) (new ++ old) bx R Q) (ho : keepS ks sl = some old := by exact rfl) (h : stepsK P ops n (l.take k) (new.map Prod.fst ++ ks) sl bx = some (new ++ old, bx) := by kernel_rfl) : JO P A W0 n ops l sl bx R Q :=
  JO_stepsN (k := k) (new := new) (ks := ks) (ho := ho) (h := h) (K := K)
theorem oB {l : List Oper} (k : Nat) (new : List (Nat × SV)) (ks : List Nat) {old : List (Nat × SV)} (bx' : List (TypeId × List Value)) (K : JO P A W0 n ops (l.drop k) (new ++ old) bx' R Q) (ho : keepS ks sl = some old := by exact rfl) (h : stepsK P ops n (l.take k) (new.map Prod.fst ++ ks) sl bx = some (new ++ old, bx') := by kernel_rfl) : JO P A W0 n ops l sl bx R Q :=
  JO_stepsB (k := k) (new := new) (ks := ks) (ho := ho) (bx' := bx') (h := h) (K := K)
theorem qN {l : List Oper} (k : Nat) (new : List (Nat × SV)) (ks : List Nat) {old : List (Nat × SV)} (K : JQ P A W0 n ops (l.drop k) (new ++ old) bx R Q) (ho : keepS ks sl = some old := by exact rfl) (h : stepsQK P ops n (l.take k) (new.map Prod.fst ++ ks) sl bx = some (new ++ old) := by kernel_rfl) : JQ P A W0 n ops l sl bx R Q :=
  JQ_stepsN (k := k) (new := new) (ks := ks) (ho := ho) (h := h) (K := K)
theorem k0 {l : List Oper} {rest : List Oper} {o : Oper} {f : FuncId} {args : Array Value} {x : Value} (h : ∀ γ w, SAT A W0 γ bx R w → Gives0 P f args w x) (k : JO P A W0 n ops rest sl' bx R Q) (hl : l = o :: rest := by exact rfl) (hp : putS n sl o.dst (.v x) = some sl' := by exact rfl) (hw : wantedS ops sl o = some true := by kernel_rfl) (hc : evCall P sl o = some (f, args) := by kernel_rfl) : JO P A W0 n ops l sl bx R Q :=
  JO_call0 (hl := hl) (hw := hw) (hc := hc) (h := h) (hp := hp) (k := k)
theorem q0 {l : List Oper} {rest : List Oper} {o : Oper} {f : FuncId} {args : Array Value} {x : Value} (h : ∀ γ w, SAT A W0 γ bx R w → Gives0 P f args w x) (k : JQ P A W0 n ops rest sl' bx R Q) (hl : l = o :: rest := by exact rfl) (hp : putS n sl o.dst (.v x) = some sl' := by exact rfl) (hw : wantedS ops sl o = some true := by kernel_rfl) (hc : evCall P sl o = some (f, args) := by kernel_rfl) : JQ P A W0 n ops l sl bx R Q :=
  JQ_call0 (hl := hl) (hw := hw) (hc := hc) (h := h) (hp := hp) (k := k)
theorem k1 {l : List Oper} {rest : List Oper} {o : Oper} {f : FuncId} {args : Array Value} {τ : Type} {val : τ → Value} {res : τ → List Res} (h : ∀ γ w, SAT A W0 γ bx R w → Gives P f args w val res) {slF : τ → List (Nat × SV)} (k : ∀ y, JO P A W0 n ops rest (slF y) bx (res y ++ R) Q) (hl : l = o :: rest := by exact rfl) (hp : ∀ y, putS n sl o.dst (.v (val y)) = some (slF y) := by exact fun _ => rfl) (hw : wantedS ops sl o = some true := by kernel_rfl) (hc : evCall P sl o = some (f, args) := by kernel_rfl) : JO P A W0 n ops l sl bx R Q :=
  JO_call (hl := hl) (hw := hw) (hc := hc) (h := h) (slF := slF) (hp := hp) (k := k)
theorem g1 {o : Oper} {f : FuncId} {args : Array Value} {τ : Type} {val : τ → Value} {res : τ → List Res} (h : ∀ w, SAT A W0 γ bx R w → Gives P f args w val res) {slF : τ → List (Nat × SV)} (k : ∀ y, KG A W0 n γ (slF y) bx (res y ++ R) K) (hp : ∀ y, putS n sl o.dst (.v (val y)) = some (slF y) := by exact fun _ => rfl) (hw : wantedS ops sl o = some true := by kernel_rfl) (hc : evCall P sl o = some (f, args) := by kernel_rfl) : JG P A W0 n ops γ o sl bx R K Q :=
  JG_call (hw := hw) (hc := hc) (h := h) (slF := slF) (hp := hp) (k := k)
theorem g0 {o : Oper} {f : FuncId} {args : Array Value} {x : Value} (h : ∀ w, SAT A W0 γ bx R w → Gives0 P f args w x) (k : KG A W0 n γ sl' bx R K) (hp : putS n sl o.dst (.v x) = some sl' := by exact rfl) (hw : wantedS ops sl o = some true := by kernel_rfl) (hc : evCall P sl o = some (f, args) := by kernel_rfl) : JG P A W0 n ops γ o sl bx R K Q :=
  JG_call0 (hw := hw) (hc := hc) (h := h) (hp := hp) (k := k)
theorem ht (i : Nat) {o : Oper} (v : SV) (is : List Nat) (hy : ∀ γ0 δ a, γ0.length = bx0.length → Live n (γ0 ++ δ) sl a → ∀ w, HeldS A W0 γ0 ks bx0 Rk w → (execOp a.eval o).run P w = .ok (.value (v.den (γ0 ++ δ))) w) (k : JH P A W0 n ops ks bx0 Rk Q fuel (listed.setIfInBounds i true) sl' bx R) (hi : ops[i]? = some o := by exact rfl) (hQ : ∀ c a w, Q (.panic c) a w = False := by exact meet_nopanic) (hin : v.inb bx0.length := by first | exact trivial | simp [SV.inb]) (hp : putS n sl o.dst v = some sl' := by exact rfl) (hns : Region.noSelect ops = true := by kernel_rfl) (hf : Region.free .any ops listed i = true := by kernel_rfl) (hrd : (Region.ready .any ops listed).contains i = true := by kernel_rfl) (hw : wantedS ops sl o = some true := by kernel_rfl) (hk : ks.map (bx[·]?) = ks.map (bx0[·]?) := by kernel_rfl) (hb : ks.all (fun k => Nat.blt k bx0.length) = true := by kernel_rfl) (hR : takeR is R = some Rk := by kernel_rfl) : JH P A W0 n ops ks bx0 Rk Q (fuel + 1) listed sl bx R :=
  JH_take (i := i) (v := v) (is := is) (hi := hi) (hns := hns) (hf := hf) (hrd := hrd) (hQ := hQ) (hw := hw) (hk := hk) (hb := hb) (hR := hR) (hin := hin) (hy := hy) (hp := hp) (k := k)
theorem rt {fn : Func} {Post : Ending → World → Prop} (vs : List Value) (h : ∀ γ w, SAT A W0 γ bx R w → Post (.returned (oneOrTuple vs)) w) (hr : resVals P sl bx fn.results.toList = some vs := by kernel_rfl) : JE A W0 n .ret sl bx R (bodyPost P fn Post) :=
  JE_ret (vs := vs) (hr := hr) (h := h)
theorem mt {τ : Type} {slF : τ → List (Nat × SV)} {bxF : τ → List (TypeId × List Value)} {RF : τ → List Res} (y : τ) (ks : List Nat) (is : List Nat) (m : Nat) (hk : keepS ks sl = some (slF y) := by kernel_rfl) (hb : inbB m (slF y) = true := by kernel_rfl) (hx : bx.take m = bxF y := by kernel_rfl) (hR : takeR is R = some (RF y) := by kernel_rfl) : JE A W0 n .normal sl bx R (fun e a w => e = .normal ∧ Meet A W0 n slF bxF RF a w) :=
  JE_meet (y := y) (ks := ks) (is := is) (m := m) (hk := hk) (hb := hb) (hx := hx) (hR := hR)
theorem mp {τ : Type} {Φ : τ → Prop} {slF : τ → List (Nat × SV)} {bxF : τ → List (TypeId × List Value)} {RF : τ → List Res} (y : τ) (hp : Φ y) (ks : List Nat) (is : List Nat) (m : Nat) (hk : keepS ks sl = some (slF y) := by kernel_rfl) (hb : inbB m (slF y) = true := by kernel_rfl) (hx : bx.take m = bxF y := by kernel_rfl) (hR : takeR is R = some (RF y) := by kernel_rfl) : JE A W0 n .normal sl bx R (Exit.then (MeetP A W0 n Φ slF bxF RF) Q) :=
  JE_meetP (y := y) (hp := hp) (ks := ks) (is := is) (m := m) (hk := hk) (hb := hb) (hx := hx) (hR := hR)
theorem ct {σ : Type} {ρ : Type} {τ : Type} {t : LS σ ρ} {slF : σ → τ → List (Nat × SV)} {bxF : σ → τ → List (TypeId × List Value)} {RF : σ → τ → List Res} {s' : σ} (ht : some (LS.cont s') = some t) (y : τ) (ks : List Nat) (is : List Nat) (m : Nat) (hk : keepS ks sl = some (slF s' y) := by kernel_rfl) (hb : inbB m (slF s' y) = true := by kernel_rfl) (hx : bx.take m = bxF s' y := by kernel_rfl) (hR : takeR is R = some (RF s' y) := by kernel_rfl) : JE A W0 n .normal sl bx R (Exit.then (fun a w => ∃ s', t = .cont s' ∧ Meet A W0 n (slF s') (bxF s') (RF s') a w) Q) :=
  JE_cont (ht := ht) (y := y) (ks := ks) (is := is) (m := m) (hk := hk) (hb := hb) (hx := hx) (hR := hR)
theorem lp {σ : Type} {ρ : Type} (τ : Type) {c : Code} {body : σ → Option (LS σ ρ)} {s : σ} {r : ρ} (h : loopW body s = some r) (slF : σ → τ → List (Nat × SV)) (bxF : σ → τ → List (TypeId × List Value)) (RF : σ → τ → List Res) (y : τ) (ks : List Nat) (is : List Nat) (m : Nat) (hbody : ∀ s y t, body s = some t → (∀ r', t = .done r' → r' = r) → JC P A W0 n c (slF s y) (bxF s y) (RF s y) (Exit.then (fun a w => ∃ s', t = .cont s' ∧ Meet A W0 n (slF s') (bxF s') (RF s') a w) Q)) (hk : keepS ks sl = some (slF s y) := by kernel_rfl) (hb : inbB m (slF s y) = true := by kernel_rfl) (hx : bx.take m = bxF s y := by kernel_rfl) (hR : takeR is R = some (RF s y) := by kernel_rfl) : JC P A W0 n (.loop c) sl bx R Q :=
  JC_loop (τ := τ) (h := h) (slF := slF) (bxF := bxF) (RF := RF) (y := y) (ks := ks) (is := is) (m := m) (hk := hk) (hb := hb) (hx := hx) (hR := hR) (hbody := hbody)
theorem oi {α : Type} [Rp α] {l : List Oper} {rest : List Oper} {o : Oper} {d : Option Addr} {m : Nat} {j : Int} (s : Nat) {xs : List α} {x : α} {cap : Nat} (hv : ∀ γ w, SAT A W0 γ bx R w → SlView w xs d cap) (hx : idx xs j = some x) (k : JO P A W0 n ops rest sl' bx R Q) (hl : l = o :: rest := by exact rfl) (hm : m = xs.length := by exact rfl) (hp : putS n sl o.dst (.q d (j.toNat * s)) = some sl' := by exact rfl) (hw : wantedS ops sl o = some true := by kernel_rfl) (he : evIndex P sl o = some (d, m, j, s) := by kernel_rfl) : JO P A W0 n ops l sl bx R Q :=
  JO_index (hl := hl) (hw := hw) (s := s) (he := he) (hv := hv) (hm := hm) (hx := hx) (hp := hp) (k := k)
theorem qi {α : Type} [Rp α] {l : List Oper} {rest : List Oper} {o : Oper} {d : Option Addr} {m : Nat} {j : Int} (s : Nat) {xs : List α} {x : α} {cap : Nat} (hv : ∀ γ w, SAT A W0 γ bx R w → SlView w xs d cap) (hx : idx xs j = some x) (k : JQ P A W0 n ops rest sl' bx R Q) (hl : l = o :: rest := by exact rfl) (hm : m = xs.length := by exact rfl) (hp : putS n sl o.dst (.q d (j.toNat * s)) = some sl' := by exact rfl) (hw : wantedS ops sl o = some true := by kernel_rfl) (he : evIndex P sl o = some (d, m, j, s) := by kernel_rfl) : JQ P A W0 n ops l sl bx R Q :=
  JQ_index (hl := hl) (hw := hw) (s := s) (he := he) (hv := hv) (hm := hm) (hx := hx) (hp := hp) (k := k)
theorem ol {l : List Oper} {rest : List Oper} {o : Oper} (t : TypeId) {d : Option Addr} {base : Nat} (off : Nat) {cs : List Value} (v : Value) (hc : ∀ γ w, SAT A W0 γ bx R w → d ≠ none ∧ CellsAt w d base cs) (k : JO P A W0 n ops rest sl' bx R Q) (hl : l = o :: rest := by exact rfl) (hp : putS n sl o.dst (.v v) = some sl' := by exact rfl) (hw : wantedS ops sl o = some true := by kernel_rfl) (he : evLoadq P sl o = some (t, d, base + off) := by kernel_rfl) (hv : partVal P t cs off = some v := by kernel_rfl) : JO P A W0 n ops l sl bx R Q :=
  JO_loadq (hl := hl) (hw := hw) (t := t) (base := base) (off := off) (he := he) (v := v) (hc := hc) (hv := hv) (hp := hp) (k := k)
theorem ql {l : List Oper} {rest : List Oper} {o : Oper} (t : TypeId) {d : Option Addr} {base : Nat} (off : Nat) {cs : List Value} (v : Value) (hc : ∀ γ w, SAT A W0 γ bx R w → d ≠ none ∧ CellsAt w d base cs) (k : JQ P A W0 n ops rest sl' bx R Q) (hl : l = o :: rest := by exact rfl) (hp : putS n sl o.dst (.v v) = some sl' := by exact rfl) (hw : wantedS ops sl o = some true := by kernel_rfl) (he : evLoadq P sl o = some (t, d, base + off) := by kernel_rfl) (hv : partVal P t cs off = some v := by kernel_rfl) : JQ P A W0 n ops l sl bx R Q :=
  JQ_loadq (hl := hl) (hw := hw) (t := t) (base := base) (off := off) (he := he) (v := v) (hc := hc) (hv := hv) (hp := hp) (k := k)
theorem gn {γ0 : List Nat} {δ : List Nat} (hm : γ0.length = bx0.length) (ks2 : List Nat) (is2 : List Nat) (k : JH P A W0 n ops ks bx0 Rk Q fuel listed sl' bx R) (hkeep : keepS ks2 sl = some sl' := by exact rfl) (hk : ks.map (bx[·]?) = ks.map (bx0[·]?) := by kernel_rfl) (hb : ks.all (fun k => Nat.blt k bx0.length) = true := by kernel_rfl) (hR : takeR is2 R = some Rk := by kernel_rfl) : KG A W0 n (γ0 ++ δ) sl bx R (fun a' w' => HeldS A W0 γ0 ks bx0 Rk w' ∧ wpAnyH P .any ops Q (HeldS A W0 γ0 ks bx0 Rk) fuel listed a' w') :=
  KG_next (hm := hm) (ks2 := ks2) (is2 := is2) (hkeep := hkeep) (hk := hk) (hb := hb) (hR := hR) (k := k)
theorem gd {γ0 : List Nat} {δ : List Nat} {δ' : List Nat} (hm : γ0.length = bx0.length) (ks2 : List Nat) (is2 : List Nat) (k : JH P A W0 n ops ks bx0 Rk Q fuel listed sl' bx R) (hkeep : keepS ks2 sl = some sl' := by exact rfl) (hk : ks.map (bx[·]?) = ks.map (bx0[·]?) := by kernel_rfl) (hb : ks.all (fun k => Nat.blt k bx0.length) = true := by kernel_rfl) (hR : takeR is2 R = some Rk := by kernel_rfl) : KG A W0 n (γ0 ++ δ ++ δ') sl bx R (fun a' w' => HeldS A W0 γ0 ks bx0 Rk w' ∧ wpAnyH P .any ops Q (HeldS A W0 γ0 ks bx0 Rk) fuel listed a' w') :=
  KG_nextD (hm := hm) (ks2 := ks2) (is2 := is2) (hkeep := hkeep) (hk := hk) (hb := hb) (hR := hR) (k := k)
theorem gs (sl' : List (Nat × SV)) (bx' : List (TypeId × List Value)) {o : Oper} (k : ∀ δ, KG A W0 n (γ ++ δ) sl' bx' R K) (h : step1 P ops n sl bx o = some (sl', bx') := by kernel_rfl) : JG P A W0 n ops γ o sl bx R K Q :=
  JG_step (h := h) (k := k) (sl' := sl') (bx' := bx')
theorem hk (ks2 : List Nat) (k : JH P A W0 n ops ks bx0 Rk Q fuel listed sl' bx R) (hkeep : keepS ks2 sl = some sl' := by exact rfl) : JH P A W0 n ops ks bx0 Rk Q fuel listed sl bx R :=
  JH_keep (ks2 := ks2) (hkeep := hkeep) (k := k)
theorem ha (rs : List Nat) (h : ∀ i ∈ rs, JHi P A W0 n ops ks bx0 Rk Q fuel listed sl bx R i) (hne : rs ≠ [] := by simp) (hr : Region.ready .any ops listed = rs := by kernel_rfl) : JH P A W0 n ops ks bx0 Rk Q (fuel + 1) listed sl bx R :=
  JH_all (rs := rs) (hr := hr) (hne := hne) (h := h)
theorem en {f : FuncId} {fn : Func} {c : Code} {args : List Value} {W : World} {Post : Ending → World → Prop} (hf : P.funcs[f]? = some fn) (hn : fn.ntmps = n) (h : JC P (fun _ => False) W n c (argSl 0 args) [] [] (bodyPost P fn Post)) (hb : fn.body = some c := by exact rfl) (hsz : Nat.ble args.length n = true := by kernel_rfl) : Calls P f args.toArray W Post :=
  enter (hf := hf) (hb := hb) (hn := hn) (hsz := hsz) (h := h)
theorem enM {f : FuncId} {fn : Func} {c : Code} {args : List Value} {W : World} {x : Value} (hf : P.funcs[f]? = some fn) (hn : fn.ntmps = n) (h : ∀ Fs : List (List Nat), JC P (fun g => g ∈ Fs.flatten) W n c (argSl 0 args) [] Rin (bodyPost P fn (TurnedTo Fs W Rout x))) (hb : fn.body = some c := by exact rfl) (hsz : Nat.ble args.length n = true := by kernel_rfl) : GivesM P f args.toArray W Rin Rout x :=
  enterM (hf := hf) (hb := hb) (hn := hn) (hsz := hsz) (h := h)
theorem qs {x : Code} {y : Code} (h : JC P A W0 n x sl bx R (Exit.then (fun a w => y.wp P Q a w) Q)) : JC P A W0 n (.seq x y) sl bx R Q :=
  JC_seq (h := h)
theorem qr {id : Nat} {o : Array Oper} (h : JO P A W0 n o o.toList sl bx R Q) : JC P A W0 n (.region id o false) sl bx R Q :=
  JC_region (h := h)
theorem qb {id : Nat} {c : Code} (h : JC P A W0 n c sl bx R (Exit.inBlock id Q)) : JC P A W0 n (.block id c) sl bx R Q :=
  JC_block (h := h)
theorem qk (h : JE A W0 n .normal sl bx R Q) : JC P A W0 n .skip sl bx R Q :=
  JC_skip (h := h)
theorem qe (h : JE A W0 n .ret sl bx R Q) : JC P A W0 n .ret sl bx R Q :=
  JC_ret (h := h)
theorem qx {id : Nat} (h : JE A W0 n (.exit id) sl bx R Q) : JC P A W0 n (.exit id) sl bx R Q :=
  JC_exit (h := h)
theorem nt {y : Code} (h : JC P A W0 n y sl bx R Q) : JE A W0 n .normal sl bx R (Exit.then (fun a w => y.wp P Q a w) Q) :=
  JE_then (h := h)
theorem nr {K : Act → World → Prop} (h : JE A W0 n .ret sl bx R Q) : JE A W0 n .ret sl bx R (Exit.then K Q) :=
  JE_then_ret (h := h)
theorem nx {id : Nat} {K : Act → World → Prop} (h : JE A W0 n (.exit id) sl bx R Q) : JE A W0 n (.exit id) sl bx R (Exit.then K Q) :=
  JE_then_exit (h := h)
theorem br {id : Nat} (h : JE A W0 n .ret sl bx R Q) : JE A W0 n .ret sl bx R (Exit.inBlock id Q) :=
  JE_block_ret (h := h)
theorem bn {id : Nat} (h : JE A W0 n .normal sl bx R Q) : JE A W0 n .normal sl bx R (Exit.inBlock id Q) :=
  JE_block_normal (h := h)
theorem bh {id : Nat} (h : JE A W0 n .normal sl bx R Q) : JE A W0 n (.exit id) sl bx R (Exit.inBlock id Q) :=
  JE_block_hit (h := h)
theorem ga {α : Type} [Flat α] {o : Oper} (t : TypeId) {e : TypeId} {a1 : Option Addr} {a2 : Option Addr} {c1 : Nat} (c2 : Nat) {l1 : List α} {l2 : List α} {l3 : List α} (i : TypeInfo) (z : Value) (hv : ∀ w, SAT A W0 γ bx R w → ∃ cap, SlView w l2 a2 cap) (h3 : appC l1 l2 = some l3) {slF : Option Addr × Nat → List (Nat × SV)} (k : ∀ y : Option Addr × Nat, KG A W0 n γ (slF y) bx (SlRes e l3 y.1 y.2 :: Rr) K) (hR : R = SlRes e l1 a1 c1 :: Rr := by exact rfl) (hp : ∀ y : Option Addr × Nat, putS n sl o.dst (.v (.slice y.1 l3.length y.2)) = some (slF y) := by exact fun _ => rfl) (hw : wantedS ops sl o = some true := by kernel_rfl) (he : evApp P sl o = some (t, e, (a1, l1.length, c1), (a2, l2.length, c2)) := by kernel_rfl) (hi : P.info? e = some i := by kernel_rfl) (hz : i.zero = some z := by kernel_rfl) (hsz : i.size = Rp.sz α := by kernel_rfl) (hzs : z.cells.size = Rp.sz α := by kernel_rfl) (hby : Nat.ble i.bytes 128 = true := by kernel_rfl) : JG P A W0 n ops γ o sl bx R K Q :=
  JG_appendV (hw := hw) (t := t) (c2 := c2) (he := he) (i := i) (hi := hi) (z := z) (hz := hz) (hsz := hsz) (hzs := hzs) (hby := hby) (hv := hv) (hR := hR) (h3 := h3) (slF := slF) (hp := hp) (k := k)
theorem oa {α : Type} [Flat α] {l : List Oper} {rest : List Oper} {o : Oper} (t : TypeId) {e : TypeId} {a1 : Option Addr} {a2 : Option Addr} {c1 : Nat} (c2 : Nat) {l1 : List α} {l2 : List α} {l3 : List α} (i : TypeInfo) (z : Value) (hv : ∀ γ w, SAT A W0 γ bx R w → ∃ cap, SlView w l2 a2 cap) (h3 : appC l1 l2 = some l3) {slF : Option Addr × Nat → List (Nat × SV)} (k : ∀ y : Option Addr × Nat, JO P A W0 n ops rest (slF y) bx (SlRes e l3 y.1 y.2 :: Rr) Q) (hl : l = o :: rest := by exact rfl) (hR : R = SlRes e l1 a1 c1 :: Rr := by exact rfl) (hp : ∀ y : Option Addr × Nat, putS n sl o.dst (.v (.slice y.1 l3.length y.2)) = some (slF y) := by exact fun _ => rfl) (hw : wantedS ops sl o = some true := by kernel_rfl) (he : evApp P sl o = some (t, e, (a1, l1.length, c1), (a2, l2.length, c2)) := by kernel_rfl) (hi : P.info? e = some i := by kernel_rfl) (hz : i.zero = some z := by kernel_rfl) (hsz : i.size = Rp.sz α := by kernel_rfl) (hzs : z.cells.size = Rp.sz α := by kernel_rfl) (hby : Nat.ble i.bytes 128 = true := by kernel_rfl) : JO P A W0 n ops l sl bx R Q :=
  JO_appendV (hl := hl) (hw := hw) (t := t) (c2 := c2) (he := he) (i := i) (hi := hi) (z := z) (hz := hz) (hsz := hsz) (hzs := hzs) (hby := hby) (hv := hv) (hR := hR) (h3 := h3) (slF := slF) (hp := hp) (k := k)
theorem gb (Rc : List Res) (Rr : List Res) {α : Type} [Rp α] {o : Oper} (e : TypeId) (len : Nat) (cs : List Value) (xs : List α) (ho : ∀ w Fs, holdsAll w Rc Fs → ownL w Fs.flatten xs cs) {slF : Option Addr × Nat → List (Nat × SV)} (k : ∀ y : Option Addr × Nat, KG A W0 n γ (slF y) bx (SlRes e xs y.1 y.2 :: Rr) K) (hlen : xs.length = len := by exact rfl) (hR : Rc ++ Rr = R := by exact rfl) (hp : ∀ y : Option Addr × Nat, putS n sl o.dst (.v (.slice y.1 xs.length y.2)) = some (slF y) := by exact fun _ => rfl) (hw : wantedS ops sl o = some true := by kernel_rfl) (he : evB P sl o = some (e, len, cs) := by kernel_rfl) (hshort : Nat.ble xs.length 1000000 = true := by kernel_rfl) : JG P A W0 n ops γ o sl bx R K Q :=
  JG_bslice (hw := hw) (e := e) (len := len) (cs := cs) (he := he) (xs := xs) (hlen := hlen) (hshort := hshort) (hR := hR) (ho := ho) (slF := slF) (hp := hp) (k := k) (Rc := Rc) (Rr := Rr)
theorem ob (Rc : List Res) (Rr : List Res) {α : Type} [Rp α] {l : List Oper} {rest : List Oper} {o : Oper} (e : TypeId) (len : Nat) (cs : List Value) (xs : List α) (ho : ∀ w Fs, holdsAll w Rc Fs → ownL w Fs.flatten xs cs) {slF : Option Addr × Nat → List (Nat × SV)} (k : ∀ y : Option Addr × Nat, JO P A W0 n ops rest (slF y) bx (SlRes e xs y.1 y.2 :: Rr) Q) (hl : l = o :: rest := by exact rfl) (hlen : xs.length = len := by exact rfl) (hR : Rc ++ Rr = R := by exact rfl) (hp : ∀ y : Option Addr × Nat, putS n sl o.dst (.v (.slice y.1 xs.length y.2)) = some (slF y) := by exact fun _ => rfl) (hw : wantedS ops sl o = some true := by kernel_rfl) (he : evB P sl o = some (e, len, cs) := by kernel_rfl) (hshort : Nat.ble xs.length 1000000 = true := by kernel_rfl) : JO P A W0 n ops l sl bx R Q :=
  JO_bslice (hl := hl) (hw := hw) (e := e) (len := len) (cs := cs) (he := he) (xs := xs) (hlen := hlen) (hshort := hshort) (hR := hR) (ho := ho) (slF := slF) (hp := hp) (k := k) (Rc := Rc) (Rr := Rr)
theorem or_ {l : List Oper} (is : List Nat) (h : JO P A W0 n ops l sl bx R' Q) (hR : takeR is R = some R' := by exact rfl) : JO P A W0 n ops l sl bx R Q :=
  JO_res (is := is) (hR := hR) (h := h)
theorem hr_ {i : Nat} (is : List Nat) (k : JHi P A W0 n ops ks bx0 Rk Q fuel listed sl bx R' i) (hR : takeR is R = some R' := by exact rfl) : JHi P A W0 n ops ks bx0 Rk Q fuel listed sl bx R i :=
  JHi_res (is := is) (hR := hR) (k := k)
theorem hi {i : Nat} {o : Oper} (h : ∀ γ0 δ, γ0.length = bx0.length → JG P A W0 n ops (γ0 ++ δ) o sl bx R (fun a' w' => HeldS A W0 γ0 ks bx0 Rk w' ∧ wpAnyH P .any ops Q (HeldS A W0 γ0 ks bx0 Rk) fuel (listed.setIfInBounds i true) a' w') Q) (hi : ops[i]? = some o := by exact rfl) : JHi P A W0 n ops ks bx0 Rk Q fuel listed sl bx R i :=
  JHi_of (hi := hi) (h := h)
theorem hd {τ : Type} {slF : τ → List (Nat × SV)} {bxF : τ → List (TypeId × List Value)} {RF : τ → List Res} (y : τ) (ks' : List Nat) (is' : List Nat) (m : Nat) (hr : Region.ready .any ops listed = [] := by kernel_rfl) (hk : keepS ks' sl = some (slF y) := by kernel_rfl) (hb : inbB m (slF y) = true := by kernel_rfl) (hx : bx.take m = bxF y := by kernel_rfl) (hR : takeR is' R = some (RF y) := by kernel_rfl) : JH P A W0 n ops ks bx0 Rk (fun e a w => e = .normal ∧ Meet A W0 n slF bxF RF a w) fuel listed sl bx R :=
  JH_done (hr := hr) (y := y) (ks' := ks') (is' := is') (m := m) (hk := hk) (hb := hb) (hx := hx) (hR := hR)
theorem oe {l : List Oper} (h : JE A W0 n .normal sl bx R Q) (hl : l = [] := by exact rfl) : JO P A W0 n ops l sl bx R Q :=
  JO_end (hl := hl) (h := h)
theorem qz {l : List Oper} (h : JE A W0 n .normal sl bx R Q) (hl : l = [] := by exact rfl) : JQ P A W0 n ops l sl bx R Q :=
  JQ_end (hl := hl) (h := h)

/-- A test, by what the plain function does there. -/
theorem cC {ρ : Type} {b : Bool} {F1 F2 : Option ρ} {r : Option ρ} {c : Operand} {x y : Code} (h : cond b F1 F2 = r) (ht : F1 = r → JC P A W0 n x sl bx R Q) (hf : F2 = r → JC P A W0 n y sl bx R Q) (hc : opV sl c = some (.bool b) := by kernel_rfl) : JC P A W0 n (.cond c x y) sl bx R Q :=
  JC_cond b hc (fun e => ht (by subst e; exact h)) (fun e => hf (by subst e; exact h))
theorem oS {ρ : Type} {b : Bool} {F1 F2 : Option ρ} {r : Option ρ} {l : List Oper} (t : Nat) (h : cond b F1 F2 = r) (ht : F1 = r → JO P A W0 n ops l (setS sl t (.v (.bool true))) bx R Q) (hf : F2 = r → JO P A W0 n ops l (setS sl t (.v (.bool false))) bx R Q)
    (hs : look sl t = some (.v (.bool b)) := by kernel_rfl) : JO P A W0 n ops l sl bx R Q :=
  JO_split t b hs (fun e => ht (by subst e; exact h)) (fun e => hf (by subst e; exact h))
theorem qS {ρ : Type} {b : Bool} {F1 F2 : Option ρ} {r : Option ρ} {l : List Oper} (t : Nat) (h : cond b F1 F2 = r) (ht : F1 = r → JQ P A W0 n ops l (setS sl t (.v (.bool true))) bx R Q) (hf : F2 = r → JQ P A W0 n ops l (setS sl t (.v (.bool false))) bx R Q)
    (hs : look sl t = some (.v (.bool b)) := by kernel_rfl) : JQ P A W0 n ops l sl bx R Q :=
  JQ_split t b hs (fun e => ht (by subst e; exact h)) (fun e => hf (by subst e; exact h))
theorem htq (i : Nat) {o : Oper} (v : SV) (is : List Nat) (k : JH P A W0 n ops ks bx0 Rk Q fuel (listed.setIfInBounds i true) sl' bx R) (hi : ops[i]? = some o := by exact rfl) (hns : Region.noSelect ops = true := by kernel_rfl) (hf : Region.free .any ops listed i = true := by kernel_rfl) (hrd : (Region.ready .any ops listed).contains i = true := by kernel_rfl)
    (hQ : ∀ c a w, Q (.panic c) a w = False := by exact meet_nopanic) (hw : wantedS ops sl o = some true := by kernel_rfl) (hk : ks.map (bx[·]?) = ks.map (bx0[·]?) := by kernel_rfl) (hb : ks.all (fun k => Nat.blt k bx0.length) = true := by kernel_rfl) (hR : takeR is R = some Rk := by kernel_rfl)
    (hin : v.inb bx0.length := by first | exact trivial | simp [SV.inb]) (he : evQ P ks sl bx0 o = some v := by kernel_rfl) (hp : putS n sl o.dst v = some sl' := by exact rfl) : JH P A W0 n ops ks bx0 Rk Q (fuel + 1) listed sl bx R :=
  JH_take i is hi hns hf hrd hQ hw hk hb hR hin (evQ_held he hb) hp k
theorem jw {c : Code} (ks' is : List Nat) (h : JC P A W0 n c sl' bx R' Q) (hk : keepS ks' sl = some sl' := by exact rfl) (hR : takeR is R = some R' := by exact rfl) (hb : inbB bx.length sl' = true := by kernel_rfl) : JC P A W0 n c sl bx R Q :=
  JC_weak ks' is bx.length hk hb List.take_length hR h
theorem ha1 (i : Nat) (h : JHi P A W0 n ops ks bx0 Rk Q fuel listed sl bx R i) (hr : Region.ready .any ops listed = [i] := by kernel_rfl) : JH P A W0 n ops ks bx0 Rk Q (fuel + 1) listed sl bx R :=
  JH_all [i] hr (by simp) (List.forall_mem_cons.2 ⟨h, fun _ h => by cases h⟩)
theorem ha2 (i j : Nat) (h : JHi P A W0 n ops ks bx0 Rk Q fuel listed sl bx R i) (h2 : JHi P A W0 n ops ks bx0 Rk Q fuel listed sl bx R j) (hr : Region.ready .any ops listed = [i, j] := by kernel_rfl) : JH P A W0 n ops ks bx0 Rk Q (fuel + 1) listed sl bx R :=
  JH_all [i, j] hr (by simp) (List.forall_mem_cons.2 ⟨h, List.forall_mem_cons.2 ⟨h2, fun _ h => by cases h⟩⟩)
theorem ha3 (i j k : Nat) (h : JHi P A W0 n ops ks bx0 Rk Q fuel listed sl bx R i) (h2 : JHi P A W0 n ops ks bx0 Rk Q fuel listed sl bx R j) (h3 : JHi P A W0 n ops ks bx0 Rk Q fuel listed sl bx R k) (hr : Region.ready .any ops listed = [i, j, k] := by kernel_rfl) : JH P A W0 n ops ks bx0 Rk Q (fuel + 1) listed sl bx R :=
  JH_all [i, j, k] hr (by simp) (List.forall_mem_cons.2 ⟨h, List.forall_mem_cons.2 ⟨h2, List.forall_mem_cons.2 ⟨h3, fun _ h => by cases h⟩⟩⟩)
/-- The end of a function whose results own nothing. -/
theorem re {fn : Func} {x : Value} (vs : List Value) (hx : oneOrTuple vs = x := by exact rfl) (hr : resVals P sl bx fn.results.toList = some vs := by kernel_rfl) :
    JE (fun _ => False) W0 n .ret sl bx R (bodyPost P fn fun e w' => e = .returned x ∧ Below W0.heap.size W0 w') := ret0 hr hx

end
end Go.Pen
