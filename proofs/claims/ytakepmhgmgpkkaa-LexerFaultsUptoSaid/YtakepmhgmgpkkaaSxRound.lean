/- The engine, tenth part: the code of a round of a range over a function, or of an iterator, walked by the laws of the plain walk. -/
import Derived.Test.YtakepmhgmgpkkaaSxRange
import Derived.TacticsIn
namespace Sx
open Go Go.RowKit
set_option linter.unusedVariables false
set_option linter.unusedSimpArgs false

/-- the wide fence, in a round or not -/
abbrev Fro (ro : Option Nat) : Fence := { Fence.wide with round := ro }

def noD (o : Oper) : Bool := match o.op with | .defer _ => false | _ => true

theorem Oper.wpIn_of_wp {P : Program} {ro : Option Nat} {o : Oper} {a : Act} {w : World} {N : Act → World → Prop} {Q : Exit → Act → World → Prop} (hd : noD o = true)
    (h : o.wp P a w N Q) : o.wpIn (Fro ro) 0 P a w N Q := by
  refine ⟨fun f _ => trivial, ?_⟩
  have hs : Oper.semAt ro a.eval o = execOp a.eval o := by
    cases ro with
    | none => rfl
    | some l => exact Oper.semAt_some l a.eval o (fun c hc => by simp [noD, hc] at hd)
  show o.uponIn _ 0 P a N Q ((Oper.semAt ro a.eval o).run P w)
  rw [hs]
  unfold Oper.wp at h
  revert h
  generalize (execOp a.eval o).run P w = r
  intro h
  cases r with
  | ok nx w' =>
    cases nx with
    | value v => exact h
    | skip => exact h
    | «defer» d => exact h
    | enter f args =>
      refine ⟨fun hs => by simp [Fence.wide] at hs, ?_⟩
      have h1 : CallsIn (Fro ro) (0 - 1) P f args w' _ := callsIn_wide (n := 0 - 1).2 h
      refine CallsIn.mono h1 ?_
      intro e w' hq
      cases e with
      | returned v => exact hq
      | panicked ch => exact hq
      | outgrown => exact hq
    | row row args =>
      refine ⟨fun hs => by simp [Fence.wide] at hs, fun c cs _ => ?_⟩
      obtain ⟨v, w'', hr, hs⟩ := h c cs
      exact ⟨v, w'', hr, stepsIn_wide.2 hs⟩
    | round l f tmps assign body => exact h.elim
    | _ => exact h.elim
  | halt hh w' =>
    cases hh with
    | panic v => exact h
    | _ => exact h.elim

theorem wpIn_loop_ghost {F : Fence} {m : Nat} {P : Program} {Q : Exit → Act → World → Prop} {a : Act} {w : World} {c : Code} (I : Nat → Act → World → Prop) (n₀ : Nat) (h₀ : I n₀ a w)
    (round : ∀ n a w, I n a w → c.wpIn F m P (Exit.then (fun a' w' => ∃ n', n' < n ∧ I n' a' w') Q) a w) : (Code.loop c).wpIn F m P Q a w := by
  refine wpIn_loop (fun a w => ∃ n, I n a w) (fun a w => leastOf (fun n => I n a w)) ⟨n₀, h₀⟩ ?_
  intro a w hI
  refine wpIn_mono (round _ a w (leastOf_spec hI).1) ?_
  intro e a' w' hq
  cases e with
  | normal =>
    obtain ⟨n', hlt, hI'⟩ := hq
    exact show (∃ n, I n a' w') ∧ leastOf (fun n => I n a' w') < leastOf (fun n => I n a w) from ⟨⟨n', hI'⟩, Nat.lt_of_le_of_lt ((leastOf_spec ⟨n', hI'⟩).2 n' hI') hlt⟩
  | exit id => exact hq
  | goto l => exact hq
  | ret => exact hq
  | panic ch => exact hq
  | outgrown => exact hq

section
variable {P : Program} {n : Fr} {ro : Option Nat} {Q : Exit → Act → World → Prop} {kn : Kn} {w w0 : World} {L rest : List Oper} {M : List Nat} {hs : List Res}
/-- the code of a round, of an iterator -/
def vcR (P : Program) (n : Fr) (ro : Option Nat) (c : Code) (Q : Exit → Act → World → Prop) (kn : Kn) (w : World) : Prop :=
  ∀ a, K n kn a → c.wpIn (Fro ro) 0 P Q a w

def noOut (Q : Exit → Act → World → Prop) : Prop := ¬ LetsOut Q
theorem noOut_then {K' : Act → World → Prop} (h : noOut Q) : noOut (Exit.then K' Q) := h
theorem noOut_block {i : Nat} (h : noOut Q) : noOut (Exit.inBlock i Q) := h
theorem noOut_post {α : Type} {Tkp : Obj → Bool} {I : List α → World → Prop} {Ix : Code → List α → World → Prop} {B : Nat} {xs : List α} {W : World} : noOut (postX Tkp I Ix B xs W) := fun ⟨a, w, h⟩ => h
theorem noOut_body {F : Fence} {m : Nat} {fn : Func} {R : Ending → World → Prop} (h : ∀ w, ¬ R .outgrown w) : noOut (bodyPostM F m P fn R) := fun ⟨a, w, h'⟩ => h w h'
theorem noOut_false : noOut (fun _ _ _ => False) := fun ⟨a, w, h'⟩ => h'
theorem noOut_bodyp {fn : Func} {R : Ending → World → Prop} (h : ∀ w, ¬ R .outgrown w) : noOut (bodyPost P fn R) := fun ⟨a, w, h'⟩ => h w h'

abbrev vLI (P : Program) (n : Fr) (ro : Option Nat) (L : List Oper) (Q : Exit → Act → World → Prop) (l : List Oper) (kn : Kn) (w : World) : Prop :=
  vN n (wpListIn (Fro ro) 0 P L.toArray Q l) kn w

theorem vi_e {o : Oper} (hQ : noOut Q) (hd : noD o = true) (h : vS P n L Q o (wpListIn (Fro ro) 0 P L.toArray Q rest) kn w) : vLI P n ro L Q (o :: rest) kn w := by
  intro a ha
  have h1 := h a ha
  unfold wpListIn
  split
  · rename_i hw
    rw [if_pos hw] at h1
    rcases h1 with h1 | h1
    · exact Oper.wpIn_of_wp hd h1
    · exact absurd h1.2 hQ
  · rename_i hw
    rw [if_neg hw] at h1
    exact ⟨fun f _ => trivial, h1⟩
theorem vi_y {o : Oper} {v : Value} (hQ : noOut Q) (hd : noD o = true) (hw : gd L kn o.guard = some true) (hd' : okDst n o.dst = true) (y : Y P n kn w o v) (next : vLI P n ro L Q rest (put o.dst v kn) w) : vLI P n ro L Q (o :: rest) kn w :=
  vi_e hQ hd (e_run hw hd' y next)
theorem vi_end (h : vcQ n Q .normal kn w) : vLI P n ro L Q [] kn w := fun a ha => h a ha

theorem vr_seq {x y : Code} (h : vcR P n ro x (Exit.then (y.wpIn (Fro ro) 0 P Q) Q) kn w) : vcR P n ro (.seq x y) Q kn w := fun a ha => wpIn_seq (h a ha)
theorem vr_region {id : Nat} {L : List Oper} (hQ : noOut Q) (h : noOut Q → vLI P n ro L Q L kn w) : vcR P n ro (.region id L.toArray false) Q kn w := fun a ha => wpIn_region_lit (h hQ a ha)
theorem vr_skip (h : vcQ n Q .normal kn w) : vcR P n ro .skip Q kn w := fun a ha => wpIn_skip (h a ha)
theorem vr_label {k : Nat} (h : vcQ n Q .normal kn w) : vcR P n ro (.label k) Q kn w := fun a ha => wpIn_label (h a ha)
theorem vr_exit {i : Nat} (h : vcQ n Q (.exit i) kn w) : vcR P n ro (.exit i) Q kn w := fun a ha => wpIn_exit (h a ha)
theorem vr_ret (h : vcQ n Q .ret kn w) : vcR P n ro .ret Q kn w := fun a ha => wpIn_ret (h a ha)
theorem vr_block {i : Nat} {c : Code} (h : vcR P n ro c (Exit.inBlock i Q) kn w) : vcR P n ro (.block i c) Q kn w := fun a ha => wpIn_block (h a ha)
theorem vr_ift {c : Operand} {x y : Code} (hc : evO kn c = some (.bool true)) (h1 : vcR P n ro x Q kn w) : vcR P n ro (.cond c x y) Q kn w :=
  fun a ha => wpIn_cond_true (ha.ev hc) (h1 a ha)
theorem vr_iff {c : Operand} {x y : Code} (hc : evO kn c = some (.bool false)) (h1 : vcR P n ro y Q kn w) : vcR P n ro (.cond c x y) Q kn w :=
  fun a ha => wpIn_cond_false (ha.ev hc) (h1 a ha)
theorem vr_ifs {t : Nat} {x y : Code} {b : Bool} (hc : find kn t = some (.bool b)) (h1 : b = true → vcR P n ro x Q ((t, .bool true) :: kn) w) (h2 : b = false → vcR P n ro y Q ((t, .bool false) :: kn) w) : vcR P n ro (.cond (.tmp t) x y) Q kn w := by
  intro a ha
  have hk : ∀ c : Bool, b = c → K n ((t, .bool c) :: kn) a := fun c e => ⟨ha.defers, ha.size, fun u v hu => by
    simp only [find] at hu
    split at hu
    · rename_i he
      obtain rfl : t = u := Nat.eq_of_beq_eq_true he
      rw [← hu, ← e]; exact ha.get _ _ hc
    · exact ha.get u v hu⟩
  have hev : a.eval (.tmp t) = .bool b := ha.ev (x := .tmp t) hc
  cases b
  · exact wpIn_cond_false hev (h2 rfl a (hk false rfl))
  · exact wpIn_cond_true hev (h1 rfl a (hk true rfl))
theorem vq_then_r {c : Code} (h : vcR P n ro c Q kn w) : vcQ n (Exit.then (c.wpIn (Fro ro) 0 P Q) Q) .normal kn w := h
theorem vr_keep {c : Code} (kn' : Kn) (hs : Sub kn' kn) (h : vcR P n ro c Q kn' w) : vcR P n ro c Q kn w := fun a ha => h a (ha.sub hs)
theorem vr_loop {α : Type} {c : Code} (f : α → Kn) (g : α → List Res) (φ : α → World → Prop) (μ : α → Nat) (x : α) (hk : Sub (f x) kn) (st : St w0 M (g x) w) (h0 : φ x w)
    (round : ∀ x w, φ x w → St w0 M (g x) w → vcR P n ro c (Exit.then (Again n w0 M f g φ μ x) Q) (f x) w) : vcR P n ro (.loop c) Q kn w := by
  intro a ha
  refine wpIn_loop_ghost (fun k a w => ∃ y, μ y = k ∧ φ y w ∧ St w0 M (g y) w ∧ K n (f y) a) (μ x) ⟨x, rfl, h0, st, ha.sub hk⟩ ?_
  rintro k a w ⟨y, rfl, h1, h2, h3⟩
  refine wpIn_mono (round y w h1 h2 a h3) ?_
  intro e a' w' hq
  cases e with
  | normal =>
    obtain ⟨z, hz, hz1, hz2, hz3⟩ := hq
    exact ⟨μ z, hz, z, rfl, hz1, hz2, hz3⟩
  | exit id => exact hq
  | goto l => exact hq
  | ret => exact hq
  | panic ch => exact hq
  | outgrown => exact hq
/-- a plain walk and one under the wide fence are one -/
theorem vc_of_r {c : Code} (h : vcR P n none c Q kn w) : vcC P n c Q kn w := fun a ha => wpIn_wide.1 (h a ha)
theorem vr_of_c {c : Code} (h : vcC P n c Q kn w) : vcR P n none c Q kn w := fun a ha => wpIn_wide.2 (h a ha)

/-- the call of yield -/
theorem vi_yield {d ty : Nat} {pos : String} {aft : Array Edge} {g : Option (Nat × Bool)} {x : Operand} {args : Array Operand} {tys : Array TypeId} {l : Nat} (vals : List Value) {R : Ending → World → Prop} (hw : gd L kn g = some true) (hd : okDst n (some d) = true)
    (hx : evO kn x = some (.func (.yield l) #[] #[])) (hv : args.toList.map (evO kn) = vals.map some)
    (hy : YieldAt (Fro ro) 0 P l vals.toArray w R) (next : ∀ e w', R e w' → ∃ v, e = .returned v ∧ vLI P n ro L Q rest ((d, v) :: kn) w') :
    vLI P n ro L Q (⟨some d, .call ⟨.value x, args, tys⟩, ty, pos, aft, g⟩ :: rest) kn w := by
  intro a ha
  obtain ⟨fn, tmps, assign, body, hr, hR⟩ := hy
  unfold wpListIn
  rw [if_pos (ha.gd hw)]
  refine ⟨fun f _ => trivial, ?_⟩
  have hargs := evs_map ha hv
  have hrun : (Oper.semAt ro a.eval ⟨some d, .call ⟨.value x, args, tys⟩, ty, pos, aft, g⟩).run P w = .ok (.round l fn tmps assign body) w := by
    have hs : Oper.semAt ro a.eval ⟨some d, .call ⟨.value x, args, tys⟩, ty, pos, aft, g⟩ = execOp a.eval ⟨some d, .call ⟨.value x, args, tys⟩, ty, pos, aft, g⟩ := by
      cases ro with
      | none => rfl
      | some l => exact Oper.semAt_some l a.eval _ (fun c hc => by cases hc)
    rw [hs]
    simp only [execOp, resolve, hargs, ha.ev hx]
    simp [Deferred.ofValue, invoke]
    exact hr
  rw [show (Fro ro).round = ro from rfl, hrun]
  refine ⟨fun hs => by simp [Fence.wide] at hs, RoundIn.mono hR ?_⟩
  intro e w' hq
  obtain ⟨v, rfl, hn⟩ := next e w' hq
  exact hn _ (ha.put (d := some d) hd v)
end
end Sx
