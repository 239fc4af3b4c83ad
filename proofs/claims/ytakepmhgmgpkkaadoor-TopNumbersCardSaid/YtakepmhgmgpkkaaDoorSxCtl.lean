/- The engine, third part: calls, the code's forms, loops, returns. -/
import Derived.Test.YtakepmhgmgpkkaaDoorSxOps2
namespace Sx
open Go Go.RowKit
set_option linter.unusedVariables false
set_option linter.unusedSimpArgs false

/-- the call returns, and 'Φ' holds of what it returns and of the memory behind it -/
def Ret (P : Program) (f : FuncId) (vals : List Value) (w : World) (Φ : Value → World → Prop) : Prop :=
  Calls P f vals.toArray w fun e w' => ∃ v, e = .returned v ∧ Φ v w'

theorem Ret.mono {P : Program} {f : FuncId} {vals : List Value} {w : World} {Φ Ψ : Value → World → Prop} (h : Ret P f vals w Φ) (hm : ∀ v w', Φ v w' → Ψ v w') : Ret P f vals w Ψ :=
  Calls.mono h fun e w' ⟨v, he, hv⟩ => ⟨v, he, hm v w' hv⟩

section
variable {P : Program} {n : Fr} {L : List Oper} {Q : Exit → Act → World → Prop} {kn : Kn} {w w0 : World} {M : List Nat} {hs : List Res} {rest : List Oper}
variable {d ty : Nat} {pos : String} {aft : Array Edge} {g : Option (Nat × Bool)}

variable {N : Act → World → Prop}
theorem e_call' {o : Oper} {f : FuncId} {vals : List Value} {Φ : Value → World → Prop} (hw : gd L kn o.guard = some true) (hd : okDst n o.dst = true)
    (hrun : ∀ a, K n kn a → (execOp a.eval o).run P w = .ok (.enter f vals.toArray) w)
    (c : Ret P f vals w Φ) (next : ∀ v w', Φ v w' → vN n N (put o.dst v kn) w') : vS P n L Q o N kn w := by
  intro a ha
  rw [if_pos (ha.gd hw)]
  refine .inl ?_
  unfold Oper.wp
  rw [hrun a ha]
  refine Calls.mono c ?_
  rintro e w' ⟨v, rfl, hv⟩
  exact next v w' hv _ (ha.put hd v)

theorem e_call {f : FuncId} {args : Array Operand} {tys : Array TypeId} (vals : List Value) {Φ : Value → World → Prop} (hw : gd L kn g = some true) (hd : okDst n (some d) = true)
    (hcall : ∀ (as : Array Value) w, (callFunc f as).run P w = .ok (.enter f as) w)
    (hv : args.toList.map (evO kn) = vals.map some)
    (c : Ret P f vals w Φ) (next : ∀ v w', Φ v w' → vN n N ((d, v) :: kn) w') :
    vS P n L Q ⟨some d, .call ⟨.value (.func f), args, tys⟩, ty, pos, aft, g⟩ N kn w :=
  e_call' (f := f) (vals := vals) hw hd (fun a ha => by
    have hargs := evs_map ha hv
    simp only [execOp, resolve, hargs, Act.eval]
    simp [Deferred.ofValue, invoke, hcall]) c next

/-- a call through a function's value -/
theorem e_callv {f : FuncId} {x : Operand} {first captured : List Value} {args : Array Operand} {tys : Array TypeId} (vals : List Value) {Φ : Value → World → Prop} (hw : gd L kn g = some true) (hd : okDst n (some d) = true)
    (hx : evO kn x = some (.func (.func f) first.toArray captured.toArray))
    (hcall : ∀ (as : Array Value) w, (callFunc f as).run P w = .ok (.enter f as) w)
    (hv : args.toList.map (evO kn) = vals.map some)
    (c : Ret P f (first ++ vals ++ captured) w Φ) (next : ∀ v w', Φ v w' → vN n N ((d, v) :: kn) w') :
    vS P n L Q ⟨some d, .call ⟨.value x, args, tys⟩, ty, pos, aft, g⟩ N kn w :=
  e_call' (f := f) (vals := first ++ vals ++ captured) hw hd (fun a ha => by
    have hargs := evs_map ha hv
    simp only [execOp, resolve, hargs, ha.ev hx]
    simp [Deferred.ofValue, invoke, hcall]) c next

/-! ### the code's forms -/
theorem vc_seq {x y : Code} (h : vcC P n x (Exit.then (y.wp P Q) Q) kn w) : vcC P n (.seq x y) Q kn w := fun a ha => wp_seq (h a ha)
theorem vc_region {id : Nat} {L : List Oper} (h : vcL P n L Q L kn w) : vcC P n (.region id L.toArray false) Q kn w := fun a ha => wp_region_lit (h a ha)
theorem vc_end (h : vcQ n Q .normal kn w) : vcL P n L Q [] kn w := fun a ha => h a ha
theorem vc_code_skip (h : vcQ n Q .normal kn w) : vcC P n .skip Q kn w := fun a ha => wp_skip (h a ha)
theorem vc_label {l : Nat} (h : vcQ n Q .normal kn w) : vcC P n (.label l) Q kn w := fun a ha => wp_label (h a ha)
theorem vc_exit {i : Nat} (h : vcQ n Q (.exit i) kn w) : vcC P n (.exit i) Q kn w := fun a ha => wp_exit (h a ha)
theorem vc_ret (h : vcQ n Q .ret kn w) : vcC P n .ret Q kn w := fun a ha => wp_ret (h a ha)
theorem vc_block {i : Nat} {c : Code} (h : vcC P n c (Exit.inBlock i Q) kn w) : vcC P n (.block i c) Q kn w := fun a ha => wp_block (h a ha)
theorem vc_if {c : Operand} {x y : Code} {b : Bool} (hc : evO kn c = some (.bool b)) (h1 : b = true → vcC P n x Q kn w) (h2 : b = false → vcC P n y Q kn w) : vcC P n (.cond c x y) Q kn w :=
  fun a ha => wp_cond (ha.ev hc) (by cases b; exact h2 rfl a ha; exact h1 rfl a ha)
theorem vc_ift {c : Operand} {x y : Code} (hc : evO kn c = some (.bool true)) (h1 : vcC P n x Q kn w) : vcC P n (.cond c x y) Q kn w :=
  fun a ha => wp_cond_true (ha.ev hc) (h1 a ha)
theorem vc_iff {c : Operand} {x y : Code} (hc : evO kn c = some (.bool false)) (h1 : vcC P n y Q kn w) : vcC P n (.cond c x y) Q kn w :=
  fun a ha => wp_cond_false (ha.ev hc) (h1 a ha)
/-- parted at a temporary: which way was taken is known of it -/
theorem vc_ifs {t : Nat} {x y : Code} {b : Bool} (hc : find kn t = some (.bool b)) (h1 : b = true → vcC P n x Q ((t, .bool true) :: kn) w) (h2 : b = false → vcC P n y Q ((t, .bool false) :: kn) w) : vcC P n (.cond (.tmp t) x y) Q kn w := by
  intro a ha
  have hk : ∀ c : Bool, b = c → K n ((t, .bool c) :: kn) a := fun c e => ⟨ha.defers, ha.size, fun u v hu => by
    simp only [find] at hu
    split at hu
    · rename_i he
      obtain rfl : t = u := Nat.eq_of_beq_eq_true he
      rw [← hu, ← e]; exact ha.get _ _ hc
    · exact ha.get u v hu⟩
  refine wp_cond (ha.ev (x := .tmp t) hc) ?_
  cases b
  · exact h2 rfl a (hk false rfl)
  · exact h1 rfl a (hk true rfl)
/-- what is known no longer is dropped -/
theorem vc_keep {c : Code} (kn' : Kn) (hs : Sub kn' kn) (h : vcC P n c Q kn' w) : vcC P n c Q kn w := fun a ha => h a (ha.sub hs)
theorem vq_keep {e : Exit} (kn' : Kn) (hs : Sub kn' kn) (h : vcQ n Q e kn' w) : vcQ n Q e kn w := fun a ha => h a (ha.sub hs)

theorem vq_then {c : Code} (h : vcC P n c Q kn w) : vcQ n (Exit.then (c.wp P Q) Q) .normal kn w := h
theorem vq_then_exit {K' : Act → World → Prop} {i : Nat} (h : vcQ n Q (.exit i) kn w) : vcQ n (Exit.then K' Q) (.exit i) kn w := h
theorem vq_then_ret {K' : Act → World → Prop} (h : vcQ n Q .ret kn w) : vcQ n (Exit.then K' Q) .ret kn w := h
theorem vq_block {i : Nat} (h : vcQ n Q .normal kn w) : vcQ n (Exit.inBlock i Q) .normal kn w := h
theorem vq_block_ret {i : Nat} (h : vcQ n Q .ret kn w) : vcQ n (Exit.inBlock i Q) .ret kn w := h
theorem vq_block_exit {i : Nat} (h : vcQ n Q .normal kn w) : vcQ n (Exit.inBlock i Q) (.exit i) kn w := fun a ha => by
  show (if i = i then Q .normal a w else Q (.exit i) a w)
  rw [if_pos rfl]; exact h a ha
theorem vq_block_other {i j : Nat} (hne : Nat.beq j i = false) (h : vcQ n Q (.exit j) kn w) : vcQ n (Exit.inBlock i Q) (.exit j) kn w := fun a ha => by
  show (if j = i then Q .normal a w else Q (.exit j) a w)
  rw [if_neg (by intro e; subst e; simp at hne)]; exact h a ha

/-! ### loops -/
def Again {α : Type} (n : Fr) (w0 : World) (M : List Nat) (f : α → Kn) (g : α → List Res) (φ : α → World → Prop) (μ : α → Nat) (x : α) (a : Act) (w : World) : Prop :=
  ∃ y, μ y < μ x ∧ φ y w ∧ St w0 M (g y) w ∧ K n (f y) a

theorem vc_loop {α : Type} {c : Code} (f : α → Kn) (g : α → List Res) (φ : α → World → Prop) (μ : α → Nat) (x : α) (hk : Sub (f x) kn) (st : St w0 M (g x) w) (h0 : φ x w)
    (round : ∀ x w, φ x w → St w0 M (g x) w → vcC P n c (Exit.then (Again n w0 M f g φ μ x) Q) (f x) w) : vcC P n (.loop c) Q kn w := by
  intro a ha
  refine Go.wp_loop_ghost (fun k a w => ∃ y, μ y = k ∧ φ y w ∧ St w0 M (g y) w ∧ K n (f y) a) (μ x) ⟨x, rfl, h0, st, ha.sub hk⟩ ?_
  rintro k a w ⟨y, rfl, h1, h2, h3⟩
  refine Go.wp_mono (round y w h1 h2 a h3) ?_
  intro e a' w' hq
  cases e with
  | normal =>
    obtain ⟨z, hz, hz1, hz2, hz3⟩ := hq
    exact ⟨μ z, hz, z, rfl, hz1, hz2, hz3⟩
  | exit id => exact hq
  | goto l => exact hq
  | ret => exact hq
  | panic ch => exact hq
  | outgrown => exact hq

theorem vq_again {α : Type} {f : α → Kn} {g : α → List Res} {φ : α → World → Prop} {μ : α → Nat} {x : α} (y : α) (hk : Sub (f y) kn) (st : St w0 M (g y) w) (h0 : φ y w) (hμ : μ y < μ x) :
    vcQ n (Exit.then (Again n w0 M f g φ μ x) Q) .normal kn w := fun a ha => ⟨y, hμ, h0, st, ha.sub hk⟩

/-- ways that meet again -/
def Meet {α : Type} (n : Fr) (w0 : World) (M : List Nat) (f : α → Kn) (g : α → List Res) (φ : α → World → Prop) (a : Act) (w : World) : Prop :=
  ∃ y, φ y w ∧ St w0 M (g y) w ∧ K n (f y) a
theorem vc_cut {α : Type} {x y : Code} (f : α → Kn) (g : α → List Res) (φ : α → World → Prop) (h1 : vcC P n x (Exit.then (Meet n w0 M f g φ) Q) kn w)
    (h2 : ∀ z w, φ z w → St w0 M (g z) w → vcC P n y Q (f z) w) : vcC P n (.seq x y) Q kn w := by
  intro a ha
  refine wp_seq (Go.wp_mono (h1 a ha) ?_)
  intro e a' w' hq
  cases e with
  | normal =>
    obtain ⟨z, hz1, hz2, hz3⟩ := hq
    exact h2 z w' hz1 hz2 a' hz3
  | exit id => exact hq
  | goto l => exact hq
  | ret => exact hq
  | panic ch => exact hq
  | outgrown => exact hq
theorem vq_meet {α : Type} {f : α → Kn} {g : α → List Res} {φ : α → World → Prop} (y : α) (hk : Sub (f y) kn) (st : St w0 M (g y) w) (h0 : φ y w) :
    vcQ n (Exit.then (Meet n w0 M f g φ) Q) .normal kn w := fun a ha => ⟨y, h0, st, ha.sub hk⟩

/-! ### entering, returning -/
def enumKn : Nat → List Value → Kn
  | _, [] => []
  | i, v :: r => (i, v) :: enumKn (i + 1) r

theorem find_enumKn : ∀ (l : List Value) (i t : Nat) (v : Value), find (enumKn i l) t = some v → i ≤ t ∧ l[t - i]? = some v
  | [], i, t, v, h => by simp [enumKn, find] at h
  | x :: r, i, t, v, h => by
    simp only [enumKn, find] at h
    split at h
    · rename_i he
      obtain rfl : i = t := Nat.eq_of_beq_eq_true he
      simpa using h
    · obtain ⟨h1, h2⟩ := find_enumKn r (i + 1) t v h
      refine ⟨by omega, ?_⟩
      rw [show t - i = (t - (i + 1)) + 1 from by omega]
      simpa using h2

theorem vc_enter {m : Nat} {f : FuncId} {fn : Func} {c : Code} {vals : List Value} {R : Ending → World → Prop} (hf : P.funcs[f]? = some fn) (hb : fn.body = some c) (hn : fn.ntmps = m) (hle : Nat.ble vals.length m = true)
    (h : vcC P (m, []) c (bodyPost P fn R) (enumKn 0 vals) w) : Calls P f vals.toArray w R := by
  refine calls_of_wp hf hb (h _ ?_)
  have hle' : vals.length ≤ m := by simpa [Nat.ble_eq] using hle
  refine ⟨rfl, ?_, ?_⟩
  · simp only [Array.size_append, List.size_toArray, Array.size_replicate, hn]; omega
  · intro t v ht
    obtain ⟨h1, h2⟩ := find_enumKn vals 0 t v ht
    have hlt : t < vals.length := by
      simp only [Nat.sub_zero] at h2
      exact (List.getElem?_eq_some_iff.1 h2).1
    simp only [Nat.sub_zero] at h2
    rw [Array.getElem?_append_left (by simpa using hlt)]
    simpa using h2

theorem ret_of {m : Nat} {f : FuncId} {fn : Func} {c : Code} (vals : List Value) {Φ : Value → World → Prop} (hf : P.funcs[f]? = some fn) (hb : fn.body = some c) (hn : fn.ntmps = m) (hle : Nat.ble vals.length m = true)
    (h : vcC P (m, []) c (bodyPost P fn fun e w' => ∃ v, e = .returned v ∧ Φ v w') (enumKn 0 vals) w) : Ret P f vals w Φ := vc_enter hf hb hn hle h

inductive ResV (P : Program) (hs : List Res) (kn : Kn) : ResultVar → Value → Prop
  | tmp {t : Nat} {v : Value} (h : find kn t = some v) : ResV P hs kn (.tmp t) v
  | cell (i : Nat) {t T b E : Nat} {l : List Value} {fz : Nat × Nat} (h : find kn t = some (.pointer (some ⟨b, 0, none⟩))) (hi : nth hs i = some (.blk b (.cells l.toArray E fz)))
      (ha : ∀ w, (Go.isAgg T).run P w = .ok true w) (hsz : ∀ w, (Go.sizeOf T).run P w = .ok l.length w) : ResV P hs kn (.cell t T) (.agg l.toArray)
  | cell1 (i : Nat) {t T b E : Nat} {l : List Value} {v : Value} {fz : Nat × Nat} (h : find kn t = some (.pointer (some ⟨b, 0, none⟩))) (hi : nth hs i = some (.blk b (.cells l.toArray E fz)))
      (ha : ∀ w, (Go.isAgg T).run P w = .ok false w) (hv : nth l 0 = some v) : ResV P hs kn (.cell t T) v

def resOne (tmps : Array Value) : ResultVar → Sem Value
  | .tmp t => pure (tmps.getD t undef)
  | .cell a t => do loadVar t (← asAddr (tmps.getD a undef))

theorem ResV.run (st : St w0 M hs w) {a : Act} (ha : K n kn a) {r : ResultVar} {v : Value} (h : ResV P hs kn r v) : (resOne a.tmps r).run P w = .ok v w := by
  cases h with
  | tmp h => simp [resOne, ha.get _ _ h]
  | cell i h hi hag hsz =>
    rename_i t T b E l fz
    have hc := run_loadCells_list (P := P) (w := w) ⟨b, 0, none⟩ l (fun j v hj => by rw [addr_add]; exact cell_blk (st.res hi) (by rw [nth_eq]; simpa using hj))
    simp only [resOne, loadVar, Sem.run_bind]
    unfold loadCells at hc
    simp [ha.get _ _ h, asAddr, hag, hsz, loadCells, hc]
  | cell1 i h hi hag hv =>
    have hc := cell_blk (st.res hi) hv
    simp only [resOne, loadVar, Sem.run_bind]
    simp [ha.get _ _ h, asAddr, hag, load, Sem.run, hc]

theorem results_eq (fn : Func) (tmps : Array Value) : results fn tmps = (do
    let vs ← fn.results.mapM (resOne tmps)
    pure (if h : vs.size = 1 then vs[0] else .tuple vs)) := by
  unfold results
  congr 2

section
variable {fn : Func} {R : Ending → World → Prop} {r1 r2 r3 r4 : ResultVar} {v1 v2 v3 v4 : Value} {e : Exit}

theorem vq_post {m : Nat} {v : Value} (he : e = .ret ∨ e = .normal) (hr : ∀ a, K (m, []) kn a → (results fn a.tmps).run P w = .ok v w) (hR : R (.returned v) w) : vcQ (m, []) (bodyPost P fn R) e kn w := by
  intro a ha
  rcases he with rfl | rfl <;> exact ⟨ha.defers, v, hr a ha, hR⟩
theorem vq_ret0 {m : Nat} (he : e = .ret ∨ e = .normal) (hf : fn.results = #[]) (hR : R (.returned (.tuple #[])) w) : vcQ (m, []) (bodyPost P fn R) e kn w :=
  vq_post he (fun a ha => by simp [results_eq, hf]) hR
theorem vq_ret1 {m : Nat} (st : St w0 M hs w) (he : e = .ret ∨ e = .normal) (hf : fn.results = #[r1]) (h1 : ResV P hs kn r1 v1) (hR : R (.returned v1) w) : vcQ (m, []) (bodyPost P fn R) e kn w :=
  vq_post he (fun a ha => by simp [results_eq, hf, h1.run st ha]) hR
theorem vq_ret2 {m : Nat} (st : St w0 M hs w) (he : e = .ret ∨ e = .normal) (hf : fn.results = #[r1, r2]) (h1 : ResV P hs kn r1 v1) (h2 : ResV P hs kn r2 v2) (hR : R (.returned (.tuple #[v1, v2])) w) : vcQ (m, []) (bodyPost P fn R) e kn w :=
  vq_post he (fun a ha => by simp [results_eq, hf, h1.run st ha, h2.run st ha]) hR
theorem vq_ret3 {m : Nat} (st : St w0 M hs w) (he : e = .ret ∨ e = .normal) (hf : fn.results = #[r1, r2, r3]) (h1 : ResV P hs kn r1 v1) (h2 : ResV P hs kn r2 v2) (h3 : ResV P hs kn r3 v3) (hR : R (.returned (.tuple #[v1, v2, v3])) w) : vcQ (m, []) (bodyPost P fn R) e kn w :=
  vq_post he (fun a ha => by simp [results_eq, hf, h1.run st ha, h2.run st ha, h3.run st ha]) hR
end
end
end Sx
