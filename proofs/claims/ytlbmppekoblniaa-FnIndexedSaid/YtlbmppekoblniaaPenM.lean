/-
  Functions that write into their arguments and are handed a closure which reads elsewhere.
-/
import Derived.Test.YtlbmppekoblniaaPenJ
namespace Go.Pen
open Go.RowKit
set_option linter.unusedVariables false

section
variable {P : Program} {A : Nat → Prop} {W0 : World} {n : Nat} {ops : Array Oper} {sl sl' : List (Nat × SV)} {bx bx' : List (TypeId × List Value)} {R R' Rc Rr Rin Rout : List Res} {Q Q' : Exit → Act → World → Prop}

theorem BoxesAt.cellsAt {γ : List Nat} {w : World} (h : BoxesAt γ bx w) {k : Nat} {e : TypeId} {cs : List Value} (hk : bx[k]? = some (e, cs)) : CellsAt w (some ⟨γ.getD k 0, 0, none⟩) 0 cs := by
  intro j u hu
  refine ⟨_, rfl, ?_⟩
  rw [cell_of_row w _ _ _ _ _ (h k e cs hk)]
  simpa using hu

/-- Such a call, where C holds of every world in which but the memory handed over has turned. -/
def GivesMQ (P : Program) (C : World → Prop) (f : FuncId) (args : Array Value) (w : World) (Rin Rout : List Res) (x : Value) : Prop :=
  ∀ Fs, holdsAll w Rin Fs → Fs.flatten.Nodup → (∀ g ∈ Fs.flatten, g < w.heap.size) → (∀ w', Kept (fun g => g ∈ Fs.flatten) w w' → C w') → Calls P f args w (TurnedTo Fs w Rout x)

theorem enterMQ {f : FuncId} {fn : Func} {c : Code} (svs : List SV) {args : List Value} {W : World} {x : Value} {C : World → Prop} (hd : svs.map (SV.den []) = args) (hpl : svs.all plainSV = true) (hf : P.funcs[f]? = some fn) (hb : fn.body = some c) (hn : fn.ntmps = n) (hsz : Nat.ble args.length n = true)
    (h : ∀ Fs : List (List Nat), (∀ w', Kept (fun g => g ∈ Fs.flatten) W w' → C w') → JC P (fun g => g ∈ Fs.flatten) W n c (argSV 0 svs) [] Rin (bodyPost P fn (TurnedTo Fs W Rout x))) : GivesMQ P C f args.toArray W Rin Rout x := by
  intro Fs hF hN hL hC
  have hsz' := Nat.le_of_ble_eq_true hsz
  have hnp : ∀ t x, look (argSV 0 svs) t = some x → plainSV x = true := fun t x hx => by
    obtain ⟨_, hv⟩ := look_argSV _ _ _ _ hx
    exact List.all_eq_true.1 hpl x (List.mem_of_getElem? hv)
  refine calls_of_wp hf hb (h Fs hC [] _ W ⟨rfl, by simp [hn]; omega, fun t x hx => ?_, fun t x hx => ?_⟩ ⟨Kept.refl _ _, rfl, by intro k e cs hk; simp at hk, Fs, hF, by simpa using hN, fun g hg => ⟨hL g (by simpa using hg), .inr (by simpa using hg)⟩⟩)
  · obtain ⟨_, hv⟩ := look_argSV _ _ _ _ hx
    simp only [Nat.sub_zero] at hv
    have hv2 : args[t]? = some (x.den []) := by rw [← hd]; simp [hv]
    have hlt := (List.getElem?_eq_some_iff.1 hv2).1
    rw [Array.getElem?_append]
    have hv' := (List.getElem?_eq_some_iff.1 hv2).2
    simp [hlt, hv']
  · have := hnp t x hx
    cases x with
    | v y => trivial
    | q a k => trivial
    | p k off => simp [plainSV] at this
    | f i ks => simp [plainSV] at this

theorem JO_callMQ {l rest : List Oper} {o : Oper} (hl : l = o :: rest) (hw : wantedS ops sl o = some true) {f : FuncId} {args : List Nat → Array Value} (hc : ∀ γ, evCallD P sl γ o = some (f, args γ)) {x : Value} {C : List Nat → World → Prop}
    (hR : R = Rin ++ Rr) (h : ∀ γ w, SAT A W0 γ bx R w → GivesMQ P (C γ) f (args γ) w Rin Rout x) (hC : ∀ γ w, Kept A W0 w → BoxesAt γ bx w → C γ w) (hp : putS n sl o.dst (.v x) = some sl') (k : JO P A W0 n ops rest sl' bx (Rout ++ Rr) Q) : JO P A W0 n ops l sl bx R Q := by
  subst hl hR
  intro γ a w hl hs
  unfold wpList
  rw [if_pos (wantedS_ok hl hw)]
  refine .inl ?_
  unfold Oper.wp
  rw [evCallD_ok hl (hc γ) w]
  obtain ⟨Fs, h1, h2, h3, h4, hback⟩ := hs.apart
  refine (h γ w hs Fs h1 h2 h3 (fun w' hk => ?_)).mono ?_
  · have hs' := hback w' [] [] hk.os hk.tape hk.output hk.size rfl (by simp) (by simp) (fun k a b => hk.block k a b)
    exact hC γ w' hs'.kept hs'.boxes
  rintro e w' ⟨rfl, t1, t2, t3, t4, t5, Fs', t6, t7, t8⟩
  exact k γ _ w' (hl.putS hp trivial) (hback w' Rout Fs' t1 t2 t3 t4 t6 t7 t8 t5)

end
end Go.Pen
