/- A part of the proof: contracts of functions and plain laws; each theorem says its own conditions. -/
import Derived.Recover
import Derived.Test.YtnmhlpnapgojjaaGreatDoorRows
import Derived.Test.YtnmhlpnapgojjaaGreatDoorPrettyOneK9
import Derived.Test.YtnmhlpnapgojjaaGreatDoorPrettyOneK1
import Derived.Test.YtnmhlpnapgojjaaGreatDoorPrettyOneK2
set_option linter.unusedVariables false
set_option linter.unusedSimpArgs false
/- Calls that return or panic; what a caller hands on; a function that defers; a deferred closure that recovers. -/
namespace Sx
open Go Go.RowKit

/-- the panic of one value, not recovered -/
abbrev pch (v : Value) : List PanicEntry := [{ v := v, recovered := false }]
/-- the call returns, and 'Φ' holds; or it panics with a value, and 'Ψ' holds of it -/
def RetP (P : Program) (f : FuncId) (vals : List Value) (w : World) (Φ Ψ : Value → World → Prop) : Prop :=
  Calls P f vals.toArray w fun e w' => (∃ v, e = .returned v ∧ Φ v w') ∨ ∃ v, e = .panicked (pch v) ∧ Ψ v w'
section
variable {P : Program} {n : Fr} {L : List Oper} {Q : Exit → Act → World → Prop} {kn : Kn} {w w0 : World} {M : List Nat} {hs : List Res} {rest : List Oper}
variable {d ty : Nat} {pos : String} {aft : Array Edge} {g : Option (Nat × Bool)}
variable {N : Act → World → Prop}

/-- what is asked where a callee's panic goes on -/
abbrev PanQ (n : Fr) (Q : Exit → Act → World → Prop) (v : Value) (w : World) : Prop := ∀ a : Act, a.defers = n.2 → Q (.panic (pch v)) a w

theorem e_callp' {o : Oper} {f : FuncId} {vals : List Value} {Φ Ψ : Value → World → Prop} (hw : gd L kn o.guard = some true) (hd : okDst n o.dst = true)
    (hrun : ∀ a, K n kn a → (execOp a.eval o).run P w = .ok (.enter f vals.toArray) w)
    (c : RetP P f vals w Φ Ψ) (pan : ∀ v w', Ψ v w' → PanQ n Q v w') (next : ∀ v w', Φ v w' → vN n N (put o.dst v kn) w') : vS P n L Q o N kn w := by
  intro a ha
  rw [if_pos (ha.gd hw)]
  refine .inl ?_
  unfold Oper.wp
  rw [hrun a ha]
  refine Calls.mono c ?_
  rintro e w' (⟨v, rfl, hv⟩ | ⟨v, rfl, hv⟩)
  · exact next v w' hv _ (ha.put hd v)
  · exact pan v w' hv a ha.defers

theorem e_callp {f : FuncId} {args : Array Operand} {tys : Array TypeId} (vals : List Value) {Φ Ψ : Value → World → Prop} (hw : gd L kn g = some true) (hd : okDst n (some d) = true)
    (hcall : ∀ (az : Array Value) w, (callFunc f az).run P w = .ok (.enter f az) w)
    (hv : args.toList.map (evO kn) = vals.map some)
    (c : RetP P f vals w Φ Ψ) (pan : ∀ v w', Ψ v w' → PanQ n Q v w') (next : ∀ v w', Φ v w' → vN n N ((d, v) :: kn) w') :
    vS P n L Q ⟨some d, .call ⟨.value (.func f), args, tys⟩, ty, pos, aft, g⟩ N kn w :=
  e_callp' (f := f) (vals := vals) hw hd (fun a ha => by
    have hargs := evs_map ha hv
    simp only [execOp, resolve, hargs, Act.eval]
    simp [Deferred.ofValue, invoke, hcall]) c pan next

theorem e_callvp {f : FuncId} {x : Operand} {first captured : List Value} {args : Array Operand} {tys : Array TypeId} (vals : List Value) {Φ Ψ : Value → World → Prop} (hw : gd L kn g = some true) (hd : okDst n (some d) = true)
    (hx : evO kn x = some (.func (.func f) first.toArray captured.toArray))
    (hcall : ∀ (az : Array Value) w, (callFunc f az).run P w = .ok (.enter f az) w)
    (hv : args.toList.map (evO kn) = vals.map some)
    (c : RetP P f (first ++ vals ++ captured) w Φ Ψ) (pan : ∀ v w', Ψ v w' → PanQ n Q v w') (next : ∀ v w', Φ v w' → vN n N ((d, v) :: kn) w') :
    vS P n L Q ⟨some d, .call ⟨.value x, args, tys⟩, ty, pos, aft, g⟩ N kn w :=
  e_callp' (f := f) (vals := first ++ vals ++ captured) hw hd (fun a ha => by
    have hargs := evs_map ha hv
    simp only [execOp, resolve, hargs, ha.ev hx]
    simp [Deferred.ofValue, invoke, hcall]) c pan next

/-- the function's own panic -/
theorem e_panic {o : Oper} {v : Value} (hw : gd L kn o.guard = some true) (hrun : ∀ a, K n kn a → (execOp a.eval o).run P w = .halt (.panic v) w) (pan : PanQ n Q v w) : vS P n L Q o N kn w := by
  intro a ha
  rw [if_pos (ha.gd hw)]
  refine .inl ?_
  unfold Oper.wp
  rw [hrun a ha]
  exact pan a ha.defers
theorem e_panicI {x : Operand} {T : Nat} {v : Value} (hw : gd L kn g = some true) (hx : evO kn x = some (.iface T v)) (pan : PanQ n Q (.iface T v) w) {dst : Option Nat} : vS P n L Q ⟨dst, .panic x, ty, pos, aft, g⟩ N kn w :=
  e_panic hw (fun a ha => by simp only [execOp, ha.ev hx]; simp [Instr.panic, goPanic, Sem.run]; try rfl) pan

theorem retp_of {m : Nat} {f : FuncId} {fn : Func} {c : Code} (vals : List Value) {Φ Ψ : Value → World → Prop} (hf : P.funcs[f]? = some fn) (hb : fn.body = some c) (hn : fn.ntmps = m) (hle : Nat.ble vals.length m = true)
    (h : vcC P (m, []) c (bodyPost P fn fun e w' => (∃ v, e = .returned v ∧ Φ v w') ∨ ∃ v, e = .panicked (pch v) ∧ Ψ v w') (enumKn 0 vals) w) : RetP P f vals w Φ Ψ := vc_enter hf hb hn hle h

theorem y_mki {T : Nat} {x : Operand} {v : Value} {fs : Array Field} (hx : evO kn x = some v) (ht : P.underlying T = some (.struct fs)) : Y P n kn w ⟨some d, .makeInterface T x, ty, pos, aft, g⟩ (.iface T v) := fun a ha => by
  simp only [execOp, ha.ev hx]
  simp [Instr.makeInterface, run_underlying ht]
/-! ### functions that defer -/
/-- 'defer': the call is put ahead of those that wait -/
theorem e_defer {o : Oper} {D : Deferred} {m : Nat} {ds : List Deferred} (hn : n = (m, ds)) (hw : gd L kn o.guard = some true) (hd : o.dst = none)
    (hrun : ∀ a, K n kn a → (execOp a.eval o).run P w = .ok (.defer D) w) (next : vN (m, D :: ds) N kn w) : vS P n L Q o N kn w := by
  subst hn
  intro a ha
  rw [if_pos (ha.gd hw)]
  refine .inl ?_
  unfold Oper.wp
  rw [hrun a ha]
  have h := next { a with defers := D :: a.defers } ⟨by simp [ha.defers], ha.size, fun t v ht => ha.get t v ht⟩
  simpa [Oper.upon, Act.put, hd] using h

theorem vcd_enter {m : Nat} {f : FuncId} {fn : Func} {c : Code} {vals : List Value} {R : Ending → World → Prop} (hf : P.funcs[f]? = some fn) (hb : fn.body = some c) (hn : fn.ntmps = m) (hle : Nat.ble vals.length m = true)
    (h : vcC P (m, []) c (bodyPostD P fn R) (enumKn 0 vals) w) : Calls P f vals.toArray w R := by
  refine calls_of_wp_defers hf hb (h _ ?_)
  have hle' : vals.length ≤ m := by simpa [Nat.ble_eq] using hle
  refine ⟨rfl, ?_, ?_⟩
  · simp only [Array.size_append, List.size_toArray, Array.size_replicate, hn]; omega
  · intro t v ht
    obtain ⟨h1, h2⟩ := find_enumKn vals 0 t v ht
    have hlt : t < vals.length := by
      simp only [Nat.sub_zero] at h2
      exact (List.getElem?_eq_some_iff.1 h2).1
    simp only [Nat.sub_zero] at h2
    rw [Array.getElem?_append_left (by simpa using hlt)]
    simpa using h2

/-- a deferred call that leaves the panic as it is and returns, and 'Φ' holds of the memory behind it -/
def DefIdle (P : Program) (f : FuncId) (args : Array Value) (w : World) (Φ : World → Prop) : Prop :=
  CallsD P f args .returning w fun e u' w' => (∃ v, e = .returned v) ∧ u' = .returning ∧ Φ w'
/-- a deferred call that recovers the panic -/
def DefCatch (P : Program) (f : FuncId) (args : Array Value) (v : Value) (w : World) (Φ : World → Prop) : Prop :=
  CallsD P f args (.panicking (pch v)) w fun e u' w' => (∃ v, e = .returned v) ∧ u' = .panicking [{ v := v, recovered := true }] ∧ Φ w'

/-- leaving with one deferred closure, without a panic -/
theorem vqd_ret {m : Nat} {fn : Func} {R : Ending → World → Prop} {e : Exit} {f : FuncId} {cap : List Value} {Φ : World → Prop} (he : e = .ret ∨ e = .normal)
    (hcall : ∀ (az : Array Value) w, (callFunc f az).run P w = .ok (.enter f az) w)
    (h : DefIdle P f cap.toArray w Φ) (hres : ∀ w', Φ w' → ∃ v, (∀ a, K (m, [⟨.fn (.func f) cap.toArray, #[]⟩]) kn a → (results fn a.tmps).run P w' = .ok v w') ∧ R (.returned v) w') :
    vcQ (m, [⟨.fn (.func f) cap.toArray, #[]⟩]) (bodyPostD P fn R) e kn w := by
  intro a ha
  have key : Leaves P fn a.tmps R a.defers .returning w := by
    rw [ha.defers]
    refine leaves_cons (f := f) (args := cap.toArray) (by simp) (by simp [invoke, hcall]) (h.mono ?_)
    rintro e u' w' ⟨⟨v, rfl⟩, rfl, hΦ⟩
    obtain ⟨r, h1, h2⟩ := hres w' hΦ
    exact ⟨r, h1 a ha, h2⟩
  rcases he with rfl | rfl <;> exact key
/-! ### a map whose entries are known -/
abbrev entF (kvs : List (Wd × Value)) : List MapEntry := kvs.zipIdx.map fun p => { key := str p.1.1, val := p.1.2, born := p.2 }
abbrev mapF (kvs : List (Wd × Value)) : Obj := .map (entF kvs).toArray kvs.length
def getF : List (Wd × Value) → Wd → Option Value
  | [], _ => none
  | (k, v) :: r, s => if s = k then some v else getF r s
theorem findNow_F (s : Wd) : ∀ (kvs : List (Wd × Value)) (j i : Nat), ∃ m, Instr.findNow .string (str s) ((kvs.zipIdx j).map fun p => ({ key := str p.1.1, val := p.1.2, born := p.2 } : MapEntry)) i = some ((getF kvs s).map fun v => (m, v))
  | [], j, i => ⟨0, rfl⟩
  | (k, v) :: r, j, i => by
    by_cases hk : s = k
    · subst hk
      exact ⟨i, by simp [Instr.findNow, Instr.sameNow, bytes_beq, getF]⟩
    · obtain ⟨m, hm⟩ := findNow_F s r (j + 1) (i + 1)
      refine ⟨m, ?_⟩
      simp only [List.zipIdx_cons, List.map_cons, Instr.findNow, Instr.sameNow, bytes_beq, hk, decide_false, getF, if_false]
      exact hm
theorem e_mkF (st : St w0 M hs w) {T : Nat} (hw : gd L kn g = some true) (hd : okDst n (some d) = true)
    (next : ∀ b w', w0.heap.size ≤ b → St w0 M (.blk b (mapF []) :: hs) w' → vN n N ((d, .map (some b)) :: kn) w') : vS P n L Q (⟨some d, .makeMap T none, ty, pos, aft, g⟩) N kn w :=
  e_run (v := .map (some w.heap.size)) (w' := w.alloc (.map #[] 0)) hw hd (fun a ha => by
    simp only [execOp, Option.map_none]; rfl) (next _ _ st.chg.size (st.pushR (Chg.alloc w _) (heap_alloc w _) (by simp [Res.at?])))
theorem e_inF (st : St w0 M hs w) (i : Nat) {T k e b : Nat} {x y z : Operand} {s : Wd} {v : Value} {kvs : List (Wd × Value)} (hw : gd L kn g = some true) (hx : evO kn x = some (.map (some b))) (hy : evO kn y = some (str s)) (hv : evO kn z = some v)
    (hi : nth hs i = some (.blk b (mapF kvs))) (hm : b ∈ M ∨ w0.heap.size ≤ b) (ht : P.underlying T = some (.map k e)) (hk : P.underlying k = some .string) (hno : getF kvs s = none)
    (next : ∀ w', St w0 M (setNth hs i (.blk b (mapF (kvs ++ [(s, v)])))) w' → vN n N kn w') : vS P n L Q (⟨none, .insert T x y z, ty, pos, aft, g⟩) N kn w := by
  have hb : w.heap[b]? = some (mapF kvs) := st.res hi
  obtain ⟨m, hf⟩ := findNow_F s kvs 0 0
  rw [hno] at hf
  simp only [Option.map_none] at hf
  obtain ⟨q1, q2, q3⟩ := setObj_chg (P := P) (o' := mapF (kvs ++ [(s, v)])) hb (by simp)
  have hent : (entF kvs).toArray.push { key := str s, val := v, born := kvs.length } = (entF (kvs ++ [(s, v)])).toArray := by
    simp [entF, List.zipIdx_append]
  refine e_do (w' := ChangeMaps.setBlock w b (mapF (kvs ++ [(s, v)]))) hw rfl (fun a ha => ?_) (next _ (st.turn hi rfl rfl q2 hm q3))
  have hfk := findKey_str (P := P) hk hf w
  have hrun : (Instr.mapUpdate T (.map (some b)) (str s) v).run P w = .ok () (ChangeMaps.setBlock w b (mapF (kvs ++ [(s, v)]))) := by
    have e1 : (kvs ++ [(s, v)]).length = kvs.length + 1 := by simp
    simp only [mapF, ← hent, e1] at q1 ⊢
    simp [Instr.mapUpdate, getObj, Sem.run_bind, underlying, Sem.run, ht, hb, Result.andThen, checkKey_str hk, hfk]
    simpa using q1
  simp only [execOp, ha.ev hx, ha.ev hy, ha.ev hv, Sem.run_bind, hrun, Result.andThen_ok]; rfl
/-- v, ok := m[s] -/
theorem e_lkF (st : St w0 M hs w) (i : Nat) {T k e b : Nat} {x y : Operand} {s : Wd} {z : Value} {kvs : List (Wd × Value)} (hw : gd L kn g = some true) (hd : okDst n (some d) = true) (hx : evO kn x = some (.map (some b))) (hy : evO kn y = some (str s))
    (hi : nth hs i = some (.blk b (mapF kvs))) (ht : P.underlying T = some (.map k e)) (hk : P.underlying k = some .string) (hz : ∀ w, (zeroValue e).run P w = .ok z w)
    (next : vN n N ((d, .tuple [(getF kvs s).getD z, .bool (getF kvs s).isSome].toArray) :: kn) w) : vS P n L Q (⟨some d, .lookup T x y true, ty, pos, aft, g⟩) N kn w := by
  have hb : w.heap[b]? = some (mapF kvs) := st.res hi
  obtain ⟨m, hf⟩ := findNow_F s kvs 0 0
  refine e_run (v := .tuple [(getF kvs s).getD z, .bool (getF kvs s).isSome].toArray) (w' := w) hw hd (fun a ha => ?_) next
  have hfk := findKey_str (P := P) hk hf w
  have hrun : (Instr.lookup T (.map (some b)) (str s) true).run P w = .ok (.tuple [(getF kvs s).getD z, .bool (getF kvs s).isSome].toArray) w := by
    cases hg : getF kvs s with
    | none =>
      rw [hg] at hfk
      simp [Instr.lookup, getObj, Sem.run_bind, underlying, Sem.run, ht, hb, Result.andThen, checkKey_str hk, hfk, hz]
    | some u =>
      rw [hg] at hfk
      simp [Instr.lookup, getObj, Sem.run_bind, underlying, Sem.run, ht, hb, Result.andThen, checkKey_str hk, hfk]
  simp only [execOp, ha.ev hx, ha.ev hy, Sem.run_bind, hrun, Result.andThen_ok]; rfl
end
end Sx


/- What the parser computes, in plain words: no program in sight. -/
namespace ParS
open Sx LexS

/-- a rule that a text breaks, and where: (place, rule) -/
abbrev Flt := Nat × Nat
abbrev PR (α : Type) := Except Flt (α × List Tok)
def tok0 : Tok := ⟨0, [], 0, 0⟩
def here (ts : List Tok) : Tok := match ts with | t :: _ => t | [] => tok0
/-- the place of what stands here; 'e': the text's length -/
def atT (e : Nat) (ts : List Tok) : Nat := match ts with | t :: _ => t.at_ | [] => e
def isT (s : List UInt8) (ts : List Tok) : Bool := decide ((here ts).text = s) && (decide ((here ts).kind = 2) || decide ((here ts).kind = 4))
def fail {α : Type} (e rule : Nat) (ts : List Tok) : Except Flt α := .error (atT e ts, rule)
def want (e : Nat) (s : List UInt8) (ts : List Tok) : Except Flt (List Tok) := if isT s ts = true then .ok ts.tail else fail e 2 ts
def nameP (e : Nat) (ts : List Tok) : PR Tok := if (here ts).kind = 1 then .ok (here ts, ts.tail) else fail e 2 ts
def declP (e : Nat) (ts : List Tok) : PR Dc := match nameP e ts with
  | .error f => .error f
  | .ok (t, r) => .ok (⟨t.text, 0, (t.at_ : Int)⟩, r)
/-- a number behind a sign, or not -/
def wordP (e : Nat) (minus : Bool) (ts : List Tok) : PR Int := if (here ts).kind = 3 then .ok (if minus = true then -((here ts).word : Int) else ((here ts).word : Int), ts.tail) else fail e 2 ts
def initP (e : Nat) (ts : List Tok) : PR Dc := match nameP e ts with
  | .error f => .error f
  | .ok (t, r) => if isT [61] r = true then
      (match wordP e (isT [45] r.tail) (if isT [45] r.tail = true then r.tail.tail else r.tail) with
        | .error f => .error f
        | .ok (x, r') => .ok (⟨t.text, x, (t.at_ : Int)⟩, r'))
    else .ok (⟨t.text, 0, (t.at_ : Int)⟩, r)
/-- one or more, with commas between and a ; behind -/
def listP (e : Nat) (one : List Tok → PR Dc) : Nat → List Tok → PR (List Dc)
  | 0, ts => .error (0, 0)
  | n + 1, ts => match one ts with
    | .error f => .error f
    | .ok (d, r) => if isT [44] r = true then (match listP e one n r.tail with
        | .error f => .error f
        | .ok (l, r') => .ok (d :: l, r'))
      else match want e [59] r with
        | .error f => .error f
        | .ok r' => .ok ([d], r')

/-! ### expressions -/
/-- an operator of two that stands here -/
def opT (t : Tok) : Option Nat := if t.kind = 4 then findO t.text else none
/-- operators and what stands behind them -/
def flatE (u : List Tok → PR Ex) : Nat → List Tok → PR (List (Nat × Nat × Ex))
  | 0, ts => .error (0, 0)
  | n + 1, ts => match opT (here ts) with
    | none => .ok ([], ts)
    | some op => match u ts.tail with
      | .error f => .error f
      | .ok (x, r) => match flatE u n r with
        | .error f => .error f
        | .ok (l, r') => .ok ((op, (here ts).at_, x) :: l, r')
def binE (op a : Nat) (x y : Ex) : Ex := .mk 4 (op : Int) 0 [] [x, y] (a : Int)
abbrev Pend := Nat × Nat × Ex
/-- operators that wait and bind as strongly take their second side -/
def redu (all : Bool) (lv : Int) : List Pend → Ex → List Pend × Ex
  | [], x => ([], x)
  | (op, a, l) :: w, x => if all = true ∨ lv ≤ lvlO (op : Int) then redu all lv w (binE op a l x) else ((op, a, l) :: w, x)
def shunt : List Pend → List Pend → Ex → Ex
  | [], w, x => (redu true 0 w x).2
  | (op, a, y) :: r, w, x => shunt r ((op, a, (redu false (lvlO (op : Int)) w x).2) :: (redu false (lvlO (op : Int)) w x).1) y
def exprW (u : List Tok → PR Ex) (ts : List Tok) : PR Ex := match u ts with
  | .error f => .error f
  | .ok (x, r) => match flatE u (r.length + 1) r with
    | .error f => .error f
    | .ok (l, r') => .ok (shunt l [] x, r')
def leafP (e : Nat) (ts : List Tok) : PR Ex :=
  if (here ts).kind = 3 then .ok (.mk 1 0 ((here ts).word : Int) [] [] ((here ts).at_ : Int), ts.tail)
  else if (here ts).kind = 1 then .ok (.mk 2 0 0 (here ts).text [] ((here ts).at_ : Int), ts.tail)
  else fail e 2 ts
def innerT (ts : List Tok) : Bool := isT [45] ts || isT [33] ts || isT [40] ts
/-- 'm': how much deeper it may lie -/
def unaryP (e : Nat) : Nat → List Tok → PR Ex
  | 0, ts => if innerT ts = true then fail e 3 ts else leafP e ts
  | m + 1, ts => if innerT ts = true then
      (if (here ts).text = [40] then (match exprW (unaryP e m) ts.tail with
        | .error f => .error f
        | .ok (x, r) => match want e [41] r with
          | .error f => .error f
          | .ok r' => .ok (x, r'))
      else match unaryP e m ts.tail with
        | .error f => .error f
        | .ok (x, r) => .ok (.mk 3 (if (here ts).text = [33] then 18 else 17) 0 [] [x] ((here ts).at_ : Int), r))
    else leafP e ts
def exprP (e m : Nat) (ts : List Tok) : PR Ex := exprW (unaryP e m) ts

/-! ### statements -/
def condP (e : Nat) (ts : List Tok) : PR Ex := match want e [40] ts with
  | .error f => .error f
  | .ok r => match exprP e 64 r with
    | .error f => .error f
    | .ok (x, r1) => match want e [41] r1 with
      | .error f => .error f
      | .ok r2 => .ok (x, r2)
def exprSemi (e : Nat) (ts : List Tok) : PR Ex := match exprP e 64 ts with
  | .error f => .error f
  | .ok (x, r) => match want e [59] r with
    | .error f => .error f
    | .ok r' => .ok (x, r')
/-- what a swap's parentheses hold, and the ; -/
def swapP (e : Nat) (ts : List Tok) : PR (List UInt8 × Ex) := match want e [40] ts with
  | .error f => .error f
  | .ok r => match nameP e r with
    | .error f => .error f
    | .ok (t, r1) => match want e [44] r1 with
      | .error f => .error f
      | .ok r2 => match exprP e 64 r2 with
        | .error f => .error f
        | .ok (x, r3) => match want e [41] r3 with
          | .error f => .error f
          | .ok r4 => match want e [59] r4 with
            | .error f => .error f
            | .ok r5 => .ok ((t.text, x), r5)
def assignP (e : Nat) (a : Nat) (ts : List Tok) : PR Sm := match nameP e ts with
  | .error f => .error f
  | .ok (t, r) => match want e [61] r with
    | .error f => .error f
    | .ok r1 => if isT wSwap r1 = true then (match swapP e r1.tail with
        | .error f => .error f
        | .ok ((o, x), r2) => .ok (.mk 2 t.text o [x] [] [] (a : Int), r2))
      else match exprSemi e r1 with
        | .error f => .error f
        | .ok (x, r2) => .ok (.mk 1 t.text [] [x] [] [] (a : Int), r2)
/-- a word that a statement begins with -/
def formT (t : Tok) (s : List UInt8) : Bool := decide (t.text = s) && decide (t.kind = 2)
/-- a statement; 'blk': a block within -/
def stmtW (e : Nat) (blk : List Tok → PR (List Sm)) (ts : List Tok) : PR Sm :=
  if formT (here ts) wIf = true then (match condP e ts.tail with
    | .error f => .error f
    | .ok (x, r) => match blk r with
      | .error f => .error f
      | .ok (b, r1) => if isT wElse r1 = true then (match blk r1.tail with
          | .error f => .error f
          | .ok (l, r2) => .ok (.mk 3 [] [] [x] b l (atT e ts : Int), r2))
        else .ok (.mk 3 [] [] [x] b [] (atT e ts : Int), r1))
  else if formT (here ts) wWhile = true then (match condP e ts.tail with
    | .error f => .error f
    | .ok (x, r) => match blk r with
      | .error f => .error f
      | .ok (b, r1) => .ok (.mk 4 [] [] [x] b [] (atT e ts : Int), r1))
  else if formT (here ts) wLock = true then (match nameP e ts.tail with
    | .error f => .error f
    | .ok (t, r) => match blk r with
      | .error f => .error f
      | .ok (b, r1) => .ok (.mk 5 t.text [] [] b [] (atT e ts : Int), r1))
  else if formT (here ts) wPrint = true then (match exprSemi e ts.tail with
    | .error f => .error f
    | .ok (x, r) => .ok (.mk 6 [] [] [x] [] [] (atT e ts : Int), r))
  else if formT (here ts) wSkip = true then (match want e [59] ts.tail with
    | .error f => .error f
    | .ok r => .ok (.mk 7 [] [] [] [] [] (atT e ts : Int), r))
  else assignP e (atT e ts) ts
/-- statements up to the } , which is gone over -/
def restW (st : List Tok → PR Sm) : Nat → List Tok → PR (List Sm)
  | 0, ts => .error (0, 0)
  | n + 1, ts => if isT [125] ts = true then .ok ([], ts.tail) else match st ts with
    | .error f => .error f
    | .ok (s, r) => match restW st n r with
      | .error f => .error f
      | .ok (l, r') => .ok (s :: l, r')
/-- 'm': how much deeper blocks may lie -/
def stmtP (e : Nat) : Nat → List Tok → PR Sm
  | 0, ts => stmtW e (fun r => if isT [123] r = true then fail e 3 r else fail e 2 r) ts
  | m + 1, ts => stmtW e (fun r => match want e [123] r with
    | .error f => .error f
    | .ok r1 => restW (stmtP e m) (r1.length + 1) r1) ts
def restP (e m : Nat) (ts : List Tok) : PR (List Sm) := restW (stmtP e m) (ts.length + 1) ts

/-! ### programs -/
def localsP (e : Nat) : Nat → List Tok → PR (List Dc)
  | 0, ts => .error (0, 0)
  | n + 1, ts => if isT wLocal ts = true then (match listP e (declP e) (ts.length + 1) ts.tail with
      | .error f => .error f
      | .ok (l, r) => match localsP e n r with
        | .error f => .error f
        | .ok (l', r') => .ok (l ++ l', r'))
    else .ok ([], ts)
def threadP (e : Nat) (ts : List Tok) : PR Th := match nameP e ts with
  | .error f => .error f
  | .ok (t, r) => match want e [123] r with
    | .error f => .error f
    | .ok r1 => match localsP e (r1.length + 1) r1 with
      | .error f => .error f
      | .ok (l, r2) => match restP e 63 r2 with
        | .error f => .error f
        | .ok (b, r3) => .ok (⟨t.text, l, b, (t.at_ : Int)⟩, r3)
def threadsP (e : Nat) : Nat → List Tok → PR (List Th)
  | 0, ts => .error (0, 0)
  | n + 1, ts => if isT wThread ts = true then (match threadP e ts.tail with
      | .error f => .error f
      | .ok (t, r) => match threadsP e n r with
        | .error f => .error f
        | .ok (l, r') => .ok (t :: l, r'))
    else .ok ([], ts)
def progP (e : Nat) : Nat → List Tok → Except Flt Pg
  | 0, ts => .error (0, 0)
  | n + 1, ts => if isT wShared ts = true then (match listP e (initP e) (ts.length + 1) ts.tail with
      | .error f => .error f
      | .ok (l, r) => match progP e n r with
        | .error f => .error f
        | .ok p => .ok ⟨l ++ p.shared, p.locks, p.threads⟩)
    else if isT wLock ts = true then (match listP e (declP e) (ts.length + 1) ts.tail with
      | .error f => .error f
      | .ok (l, r) => match progP e n r with
        | .error f => .error f
        | .ok p => .ok ⟨p.shared, l ++ p.locks, p.threads⟩)
    else match threadsP e (ts.length + 1) ts with
      | .error f => .error f
      | .ok (l, r) => if r.length = 0 then .ok ⟨[], [], l⟩ else fail e 2 r
/-- Parse's answer: a program, an error, a place, a rule -/
def pg0 : Pg := ⟨[], [], []⟩
def parseRes (s : List UInt8) : Pg × Nat × Nat × Nat :=
  if 65536 < s.length then (pg0, 4, 0, 0) else match (front s).2 with
    | some (rule, p) => (pg0, 30, p, 1)
    | none => match progP s.length ((front s).1.length + 1) (front s).1 with
      | .error f => (pg0, 30, f.1, f.2)
      | .ok p => (p, 0, 0, 0)
def exprRes (s : List UInt8) : Ex × Nat × Nat × Nat :=
  if 65536 < s.length then (ex0, 4, 0, 0) else match (front s).2 with
    | some (rule, p) => (ex0, 30, p, 1)
    | none => match exprP s.length 64 (front s).1 with
      | .error f => (ex0, 30, f.1, f.2)
      | .ok (x, r) => if r.length = 0 then (x, 0, 0, 0) else (ex0, 30, atT s.length r, 2)
end ParS


/- What the parser computes, more: wanted words one after another; rests are rests of the tokens. -/
namespace ParS
open Sx LexS

/-- words that must stand here, one behind the other -/
def wantL (e : Nat) : List (List UInt8) → List Tok → Except Flt (List Tok)
  | [], ts => .ok ts
  | s :: l, ts => match want e s ts with
    | .error f => .error f
    | .ok r => wantL e l r
theorem wantL_one (e : Nat) (s : List UInt8) (ts : List Tok) : wantL e [s] ts = want e s ts := by
  simp only [wantL]; split <;> simp_all
theorem isT_ne {s : List UInt8} {r : List Tok} (h : isT s r = true) : r ≠ [] := by
  rintro rfl; simp [isT, here, tok0] at h
theorem kind_ne {k : Nat} {r : List Tok} (h : (here r).kind = k) (hk : k ≠ 0) : r ≠ [] := by
  rintro rfl; exact hk h.symm
theorem inner_ne {r : List Tok} (h : innerT r = true) : r ≠ [] := by rintro rfl; simp [innerT, isT, here, tok0] at h
theorem tail_lt {r : List Tok} (h : r ≠ []) : r.tail.length < r.length := by
  cases r with
  | nil => exact absurd rfl h
  | cons x l => simp
theorem want_ok {e : Nat} {s : List UInt8} {ts r : List Tok} (h : want e s ts = .ok r) : isT s ts = true ∧ r = ts.tail := by
  unfold want at h; split at h
  · rename_i hc; cases h; exact ⟨hc, rfl⟩
  · cases h
theorem want_pos {e : Nat} {s : List UInt8} {ts : List Tok} (h : isT s ts = true) : want e s ts = .ok ts.tail := by unfold want; rw [if_pos h]
theorem want_neg {e : Nat} {s : List UInt8} {ts : List Tok} (h : isT s ts = false) : want e s ts = .error (atT e ts, 2) := by unfold want; rw [if_neg (by simp [h])]; rfl
end ParS


/- A parser in memory: its tokens, its place; what its functions hand back, and how they fail. -/
namespace Sx
open Go Go.RowKit LexS ParS

abbrev tkL (t : Tok) : List Value := [.int .u8 (t.kind : Int), str t.text, .int .i64 (t.word : Int), .int .i64 (t.at_ : Int)]
abbrev exC (e : Ex) (oa : Option Addr) (cap : Nat) : List Value := [.int .u8 e.k, .int .u8 e.op, .int .i64 e.wd, str e.nm, .slice oa e.kids.length cap, .int .i64 e.a]
abbrev smC (s : Sm) (oe ob ol : Option Addr) (ce cb cl : Nat) : List Value := [.int .u8 s.k, str s.nm, str s.other, .slice oe s.e.length ce, .slice ob s.body.length cb, .slice ol s.els.length cl, .int .i64 s.a]
abbrev thC (t : Th) (ol ob : Option Addr) (cl cb : Nat) : List Value := [str t.nm, .slice ol t.locals.length cl, .slice ob t.body.length cb, .int .i64 t.a]
abbrev pgC (p : Pg) (os ol ot : Option Addr) (cs cl ct : Nat) : List Value := [.slice os p.shared.length cs, .slice ol p.locks.length cl, .slice ot p.threads.length ct]

/-- the operators' signs and levels, in the block of a variable -/
def SigAt (g : Nat) (w : World) : Prop := ∀ k, k < 19 → w.cell? ⟨g, k * 2, none⟩ = some (str (sgn k)) ∧ w.cell? ⟨g, k * 2 + 1, none⟩ = some (.int .i64 (lvl k))
theorem SigAt.kept {g : Nat} {M : List Nat} {w w' : World} (h : SigAt g w) (c : Chg M w w') (hg : g ∉ M) : SigAt g w' := fun k hk => ⟨c.cell (h k hk).1 hg, c.cell (h k hk).2 hg⟩

/-- what stays as long as a parser goes: 'pb' its block; 'n0': older blocks stay; 'T' the parser's type, 'R' the refusal's; 'g' the signs' block -/
structure PCtx where
  pb : Nat
  n0 : Nat
  oa : Option Addr
  cap : Nat
  ts : List Tok
  e : Nat
  T : Nat
  R : Nat
  g : Nat
/-- the parser's cells: its tokens, its place, the text's end; 'r' is what is left -/
abbrev pcell (c : PCtx) (r : List Tok) : List Value := [.slice c.oa c.ts.length c.cap, .int .i64 ((c.ts.length - r.length : Nat) : Int), .int .i64 (c.e : Int)]
abbrev PAt (c : PCtx) (r : List Tok) (w : World) : Prop := w.heap[c.pb]? = some (.cells (pcell c r).toArray c.T (0, 0))
/-- a refusal, as a panic's value -/
abbrev refV (c : PCtx) (f : Flt) : Value := .iface c.R (.agg #[.int .i64 (f.1 : Int), .int .i64 (f.2 : Int)])

structure PCok (c : PCtx) (w : World) : Prop where
  row : RowC w (· < c.n0) 4 c.oa c.ts.length (fun j => tkL (c.ts.getD j tok0))
  n0 : c.n0 ≤ c.pb
  g : c.g < c.n0
  len : c.ts.length ≤ 1048576
  el : c.e ≤ 1048576
  sig : SigAt c.g w
  le : c.n0 ≤ w.heap.size
  wd : ∀ t ∈ c.ts, t.word ≤ 9223372036854775807
theorem PCok.kept {c : PCtx} {M : List Nat} {w w' : World} (h : PCok c w) (k : Chg M w w') (hM : ∀ b ∈ M, c.n0 ≤ b) : PCok c w' :=
  ⟨h.row.kept (.of_chg k fun b hb hm => absurd (hM b hm) (Nat.not_le.2 hb)), h.n0, h.g, h.len, h.el, h.sig.kept k (fun hm => absurd (hM _ hm) (Nat.not_le.2 h.g)), Nat.le_trans h.le k.size, h.wd⟩
theorem PCok.k1 {c : PCtx} {w w' : World} (h : PCok c w) (k : Chg [c.pb] w w') : PCok c w' := h.kept k (by simpa using h.n0)
theorem PCok.k2 {c : PCtx} {b : Nat} {w w' : World} (h : PCok c w) (k : Chg [c.pb, b] w w') (hb : c.n0 ≤ b) : PCok c w' := h.kept k (by simpa using ⟨h.n0, hb⟩)

theorem suf_get {ts r : List Tok} (h : r <:+ ts) (hr : r ≠ []) : ts.getD (ts.length - r.length) tok0 = here r ∧ ts.length - r.length < ts.length := by
  obtain ⟨a, rfl⟩ := h
  cases r with
  | nil => exact absurd rfl hr
  | cons x l =>
    have e : (a ++ x :: l).length - (x :: l).length = a.length := by simp
    rw [e]
    exact ⟨by simp [List.getD, here], by simp⟩
theorem suf_len {ts r : List Tok} (h : r <:+ ts) : r.length ≤ ts.length := h.length_le
theorem suf_tail {ts r : List Tok} (h : r <:+ ts) : r.tail <:+ ts := (List.tail_suffix r).trans h
theorem here_wd {ts r : List Tok} (h : ∀ t ∈ ts, t.word ≤ 9223372036854775807) (hr : r <:+ ts) : (here r).word ≤ 9223372036854775807 := by
  cases r with
  | nil => exact Nat.zero_le _
  | cons x l => exact h x (hr.subset (.head _))
theorem neg_i64 {n : Nat} (h : n ≤ 9223372036854775807) : IntKind.i64.wrap (0 - (n : Int)) = -(n : Int) := by rw [IntWalk.i64_in _ ⟨by omega, by omega⟩]; omega
theorem here_nil {r : List Tok} (h : r.length = 0) : here r = tok0 := by rw [List.eq_nil_of_length_eq_zero h]; rfl
theorem atT_nil {e : Nat} {r : List Tok} (h : r.length = 0) : atT e r = e := by rw [List.eq_nil_of_length_eq_zero h]; rfl
theorem atT_cons {e : Nat} {r : List Tok} (h : r ≠ []) : atT e r = (here r).at_ := by cases r with | nil => exact absurd rfl h | cons x l => rfl

/-- the cells of the token that stands here -/
theorem PCok.tok {c : PCtx} {w : World} (h : PCok c w) {r : List Tok} (hs : r <:+ c.ts) (hr : r ≠ []) : ∃ b off, c.oa = some ⟨b, off, none⟩ ∧ ∀ i v, (tkL (here r))[i]? = some v → w.cell? ⟨b, off + (c.ts.length - r.length) * 4 + i, none⟩ = some v := by
  obtain ⟨h1, h2⟩ := suf_get hs hr
  rcases h.row with h0 | ⟨b, off, e, hb, hl, hc⟩
  · omega
  · refine ⟨b, off, e, fun i v hi => (hc _ h2).2 i v ?_⟩
    dsimp only; rw [h1]; exact hi

/-- what a function of a parser hands back -/
def PRes {α : Type} (c : PCtx) (r : List Tok) (res : PR α) (M : List Nat) (w : World) (H : α → Value → World → Prop) (v : Value) (w' : World) : Prop :=
  ∃ x r', res = .ok (x, r') ∧ r' <:+ r ∧ r'.length < r.length ∧ PAt c r' w' ∧ Chg M w w' ∧ H x v w'
/-- it refuses -/
def PErr {α : Type} (c : PCtx) (res : Except Flt α) (M : List Nat) (w : World) (v : Value) (w' : World) : Prop :=
  ∃ f, res = .error f ∧ v = refV c f ∧ Chg M w w'

section
variable {w w' w0 : World} {M : List Nat} {hs : List Res}
/-- a block that is held has been written on by a callee -/
theorem St.prs {b : Nat} {o o' : Obj} (st : St w0 M hs w) (i : Nat) (hi : nth hs i = some (.blk b o)) (ch : Chg [b] w w') (hm : b ∈ M ∨ w0.heap.size ≤ b) (h' : w'.heap[b]? = some o') : St w0 M (setNth hs i (.blk b o')) w' :=
  st.turn hi rfl rfl ch hm h'
/-- and something new has come -/
theorem St.prsT {b : Nat} {o o' : Obj} {q : Res} (st : St w0 M hs w) (i : Nat) (hi : nth hs i = some (.blk b o)) (ch : Chg [b] w w') (hm : b ∈ M ∨ w0.heap.size ≤ b) (h' : w'.heap[b]? = some o')
    (hq : q.holds w0.heap.size w') (hqa : ∀ k ∈ q.at?, w.heap.size ≤ k) : St w0 M (q :: setNth hs i (.blk b o')) w' :=
  st.swapPush hi ch (by simp [Res.at?]) (by simpa using hm) (by simp [Res.at?]) h' hq hqa
/-- two blocks that are held are two -/
theorem St.bne {b b' : Nat} {o o' : Obj} (st : St w0 M hs w) (i j : Nat) (hij : i ≠ j) (hi : nth hs i = some (.blk b o)) (hj : nth hs j = some (.blk b' o')) : b ≠ b' := fun e => apart_nth st.nodup hij hi hj b (.head _) (by rw [e]; exact .head _)
theorem holds_ex {tE base : Nat} {oa : Option Addr} {cap : Nat} {es : List Ex} {S : List Nat} (h : ExR tE w oa cap es S) : (Res.tree S fun w => ExR tE w oa cap es S).holds base w := holds_of h h.lt (fun a b h hk => h.kept hk)
theorem holds_sm {tE tS base : Nat} {oa : Option Addr} {cap : Nat} {es : List Sm} {S : List Nat} (h : SmR tE tS w oa cap es S) : (Res.tree S fun w => SmR tE tS w oa cap es S).holds base w := holds_of h h.lt (fun a b h hk => h.kept hk)
theorem holds_dc {tD base : Nat} {oa : Option Addr} {cap : Nat} {es : List Dc} {S : List Nat} (h : DcR tD w oa cap es S) : (Res.tree S fun w => DcR tD w oa cap es S).holds base w := holds_of h h.lt (fun a b h hk => h.kept hk)
end
end Sx


namespace Go.Proofs.YtnmhlpnapgojjaaGreatDoor.Pq
open Go.RowKit Sx LexS ParS _root_.Go.Proofs.Tryz

theorem known_any (k : Int) (w : World) : Ret Tryz.prog 157 [.int .u8 k] w fun v w' => v = .bool (knownOp k) ∧ w' = w := by
 refine ret_of [_] func157 rfl ntmps157 rfl ?_
 have st := St.init w []
 refine vc_seq (vc_region ?_)
 refine ya ?_
 refine vc_end (vq_then (vk1 0 (vc_seq (vc_region ?_))))
 refine ym ?_
 refine vy (y_gtr rfl rfl) ?_
 refine vmb ?_ ?_
 ·intro hg5
  try simp only [dn] at hg5
  refine ym ?_
  refine vy (y_lss rfl rfl) ?_
  refine ypt ?_
  refine ya ?_
  refine vc_end (vq_then (vk1 2 (vc_ret ?_)))
  refine vq_ret1 st (.inl rfl) results157 (.tmp rfl) ?_
  refine ⟨_, rfl, ?_⟩
  refine ⟨?_, rfl⟩
  congr 1
  unfold knownOp
  (symm; simp; omega)
 ·intro hg5
  try simp only [dn] at hg5
  iterate 2 refine vsk ?_
  refine ypf ?_
  refine ya ?_
  refine vc_end (vq_then (vk1 2 (vc_ret ?_)))
  refine vq_ret1 st (.inl rfl) results157 (.tmp rfl) ?_
  refine ⟨_, rfl, ?_⟩
  refine ⟨?_, rfl⟩
  congr 1
  unfold knownOp
  (symm; simp; omega)

theorem two_any (k : Int) (w : World) : Ret Tryz.prog 104 [.int .u8 k] w fun v w' => v = .bool (twoOp k) ∧ w' = w := by
 refine ret_of [_] func104 rfl ntmps104 rfl ?_
 have st := St.init w []
 refine vc_seq (vc_region ?_)
 refine ya ?_
 refine vc_end (vq_then (vk1 0 (vc_seq (vc_region ?_))))
 refine ym ?_
 refine vc_e (e_call [_] rfl rfl call157 rfl (known_any _ _) ?_)
 rintro _ _ ⟨rfl, rfl⟩
 refine vmb ?_ ?_
 ·intro hg5
  try simp only [dn] at hg5
  refine ym ?_
  refine vy (y_nei rfl rfl) ?_
  refine ypt ?_
  refine vmb ?_ ?_
  ·intro hg9
   try simp only [dn] at hg9
   refine ym ?_
   refine vy (y_nei rfl rfl) ?_
   refine ypt ?_
   refine ya ?_
   refine vc_end (vq_then (vk1 2 (vc_ret ?_)))
   refine vq_ret1 st (.inl rfl) results104 (.tmp rfl) ?_
   refine ⟨_, rfl, ?_⟩
   refine ⟨?_, rfl⟩
   show Value.bool _ = Value.bool _
   congr 1
   unfold knownOp at *
   unfold twoOp
   simp only [decide_eq_true_eq, decide_eq_false_iff_not, Bool.not_eq_true', Bool.not_eq_false'] at *
   (rw [Bool.eq_iff_iff]; simp only [Bool.not_eq_true', decide_eq_false_iff_not, decide_eq_true_eq]; omega)
  ·intro hg9
   try simp only [dn] at hg9
   iterate 2 refine vsk ?_
   refine ypf ?_
   refine ya ?_
   refine vc_end (vq_then (vk1 2 (vc_ret ?_)))
   refine vq_ret1 st (.inl rfl) results104 (.tmp rfl) ?_
   refine ⟨_, rfl, ?_⟩
   refine ⟨?_, rfl⟩
   show Value.bool _ = Value.bool _
   congr 1
   unfold knownOp at *
   unfold twoOp
   simp only [decide_eq_true_eq, decide_eq_false_iff_not, Bool.not_eq_true', Bool.not_eq_false'] at *
   (symm; rw [decide_eq_false_iff_not]; omega)
 ·intro hg5
  try simp only [dn] at hg5
  iterate 2 refine vsk ?_
  refine ypf ?_
  refine ym ?_
  iterate 2 refine vsk ?_
  refine ypf ?_
  refine ya ?_
  refine vc_end (vq_then (vk1 2 (vc_ret ?_)))
  refine vq_ret1 st (.inl rfl) results104 (.tmp rfl) ?_
  refine ⟨_, rfl, ?_⟩
  refine ⟨?_, rfl⟩
  show Value.bool _ = Value.bool _
  congr 1
  unfold knownOp at *
  unfold twoOp
  simp only [decide_eq_true_eq, decide_eq_false_iff_not, Bool.not_eq_true', Bool.not_eq_false'] at *
  (symm; rw [decide_eq_false_iff_not]; omega)

theorem level_any (k : Int) (w : World) (hs : SigAt 0 w) : Ret Tryz.prog 105 [.int .u8 k] w fun v w' => v = .int .i64 (lvlO k) ∧ w' = w := by
 refine ret_of [_] func105 rfl ntmps105 rfl ?_
 have st := St.init w []
 refine vc_seq (vc_region ?_)
 refine ya ?_
 refine vc_end (vq_then (vk1 0 (vc_seq (vc_seq (vc_region ?_)))))
 refine ym ?_
 refine vc_e (e_call [_] rfl rfl call157 rfl (known_any _ _) ?_)
 rintro _ _ ⟨rfl, rfl⟩
 refine vy (y_not rfl) ?_
 refine vc_end (vq_then (vk2 0 5 ?_))
 refine vc_ifs rfl ?_ ?_
 ·intro hc5
  try simp only [dn] at hc5
  refine vc_seq (vc_region ?_)
  refine ya ?_
  refine vc_end (vq_then (vk1 2 (vc_ret (vq_then_ret ?_))))
  refine vq_ret1 st (.inl rfl) results105 (.tmp rfl) ?_
  refine ⟨_, rfl, ?_⟩
  refine ⟨?_, rfl⟩
  unfold lvlO
  rw [if_neg (by simpa using hc5)]
 ·intro hc5
  try simp only [dn] at hc5
  have hk : 0 < k ∧ k < 19 := by simpa [knownOp] using hc5
  obtain ⟨m, rfl⟩ : ∃ m : Nat, k = (m : Int) := ⟨k.toNat, by omega⟩
  refine vc_code_skip (vq_then (vk1 0 (vc_seq (vc_region ?_))))
  refine ym ?_
  refine vy (y_iaa (k := m) rfl rfl underlying204 sizeOf203 rfl (by omega)) ?_
  refine vy (y_fa (k := 1) rfl underlying203 rfl rfl sizeOf3 rfl) ?_
  refine vy ((by exact y_ldc rfl isAgg3 (by have h := (hs m (by omega)).2; rw [Nat.zero_add]; exact h))) ?_
  refine ya ?_
  refine vc_end (vq_then (vk1 2 (vc_ret ?_)))
  refine vq_ret1 st (.inl rfl) results105 (.tmp rfl) ?_
  refine ⟨_, rfl, ?_⟩
  refine ⟨?_, rfl⟩
  unfold lvlO
  rw [if_pos (by simpa using hc5)]
  rfl

/-- no operator of two below 'j' has the sign -/
def noOp (s : List UInt8) (j : Nat) : Prop := ∀ k, k < j → (twoOp (k : Int) && decide (sgn k = s)) = false
theorem findO_at {s : List UInt8} {j : Nat} (hj : j < 19) (h : noOp s j) (h2 : twoOp (j : Int) = true) (h3 : sgn j = s) : findO s = some j := by
 unfold findO
 rw [List.find?_eq_some_iff_append]
 refine ⟨by simp [h2, h3], List.range j, (List.range' (j + 1) (18 - j)), ?_, fun k hk => (by have := h k (by simpa using hk); show (!(twoOp (k : Int) && decide (sgn k = s))) = true; rw [this]; rfl)⟩
 rw [List.range_eq_range', List.range_eq_range', show 19 = j + (19 - j) by omega, ← List.range'_append_1]
 rw [show 19 - j = (18 - j) + 1 by omega, List.range'_succ]
 simp
theorem findO_no {s : List UInt8} (h : noOp s 19) : findO s = none := by
 unfold findO
 rw [List.find?_eq_none]
 intro k hk
 have := h k (by simpa using hk)
 show ¬ (twoOp (k : Int) && decide (sgn k = s)) = true
 rw [this]; simp
theorem noOp_step {s : List UInt8} {j : Nat} (h : noOp s j) (h2 : (twoOp (j : Int) && decide (sgn j = s)) = false) : noOp s (j + 1) := fun k hk => by
 rcases Nat.lt_or_ge k j with h1 | h1
 ·exact h k h1
 ·obtain rfl : k = j := by omega
  exact h2

theorem find_any (s : List UInt8) (w : World) (hs : SigAt 0 w) : Ret Tryz.prog 110 [str s] w fun v w' => v = .tuple [.int .u8 (((findO s).getD 0 : Nat) : Int), .bool (findO s).isSome].toArray ∧ w' = w := by
 refine ret_of [_] func110 rfl ntmps110 rfl ?_
 have st := St.init w []
 obtain ⟨w0, rfl⟩ : ∃ w0, w0 = w := ⟨_, rfl⟩
 refine vc_seq (vc_region ?_)
 iterate 2 refine ya ?_
 refine vc_end (vq_then (vk1 0 (vc_seq (vc_seq (vc_region ?_)))))
 refine ym ?_
 refine vc_end (vq_then (vk2 0 5 (vc_block ?_)))
 refine vc_loop (w0 := w0) (M := []) (fun (j : Nat) => [(0, str s), (5, .int .u8 (j : Int))]) (fun _ => []) (fun j w' => j ≤ 19 ∧ noOp s j ∧ w' = w0) (fun j => 19 - j) 0 ⟨rfl, rfl, trivial⟩ st ⟨by simp, fun k hk => by omega, rfl⟩ ?_
 clear st
 rintro j w ⟨hj, hno, rfl⟩ st
 refine vc_seq (vc_region ?_)
 refine vy (y_lss rfl rfl) ?_
 refine vc_end (vq_then (vk3 0 5 6 (vc_seq ?_)))
 refine vc_ifs rfl ?_ ?_
 ·intro hc6
  try simp only [dn] at hc6
  refine vc_code_skip (vq_then (vk2 0 5 (vc_seq (vc_block (vc_seq (vc_region ?_))))))
  refine ym ?_
  refine ya ?_
  refine vc_end (vq_then (vk3 0 4 5 (vc_seq (vc_region ?_))))
  refine ym ?_
  refine vc_e (e_call [_] rfl rfl call104 rfl (two_any _ _) ?_)
  rintro _ _ ⟨rfl, rfl⟩
  refine vmb ?_ ?_
  ·intro hg10
   try simp only [dn] at hg10
   refine ym ?_
   refine vy (y_iaa (k := j) rfl rfl underlying204 sizeOf203 rfl (by omega)) ?_
   refine vy (y_fa0 rfl underlying203 rfl rfl sizeOf9 rfl) ?_
   refine vy ((by exact y_ldc rfl isAgg9 (by have h := (hs j (by omega)).1; rw [Nat.zero_add]; exact h))) ?_
   refine ym ?_
   refine vy (y_eqs rfl rfl) ?_
   refine ypt ?_
   refine vc_end (vq_then (vk4 0 4 5 17 ?_))
   refine vc_ifs rfl ?_ ?_
   ·intro hc17
    try simp only [dn] at hc17
    refine vc_seq (vc_region ?_)
    refine ym ?_
    iterate 2 refine ya ?_
    refine vc_end (vq_then (vk2 2 3 (vc_ret (vq_block_ret (vq_then_ret (vq_then_ret (vq_block_ret (vq_then_ret ?_))))))))
    refine vq_ret2 st (.inl rfl) results110 (.tmp rfl) (.tmp rfl) ?_
    refine ⟨_, rfl, ?_⟩
    have he : findO s = some j := findO_at (by omega) hno (by simp_all) (by simp_all)
    rw [he]
    exact ⟨rfl, rfl⟩
   ·intro hc17
    try simp only [dn] at hc17
    refine vc_code_skip (vq_block (vq_then (vk2 0 5 (vc_region ?_))))
    refine vy (y_addk rfl rfl (by rw [wrap_u8]; omega : _ = ((j + 1 : Nat) : Int))) ?_
    refine ym ?_
    refine vc_end ?_
    refine vq_again (j + 1)  ⟨rfl, rfl, trivial⟩ st ?_ ?_
    ·exact ⟨by omega, noOp_step hno (by simp_all), rfl⟩
    ·omega
  ·intro hg10
   try simp only [dn] at hg10
   iterate 6 refine vsk ?_
   refine ypf ?_
   refine vc_end (vq_then (vk4 0 4 5 17 ?_))
   refine vc_iff rfl ?_
   refine vc_code_skip (vq_block (vq_then (vk2 0 5 (vc_region ?_))))
   refine vy (y_addk rfl rfl (by rw [wrap_u8]; omega : _ = ((j + 1 : Nat) : Int))) ?_
   refine ym ?_
   refine vc_end ?_
   refine vq_again (j + 1)  ⟨rfl, rfl, trivial⟩ st ?_ ?_
   ·exact ⟨by omega, noOp_step hno (by simp_all), rfl⟩
   ·omega
 ·intro hc6
  try simp only [dn] at hc6
  refine vc_exit (vq_then_exit (vq_then_exit (vq_block_exit (vq_then (vc_keep [] trivial (vc_seq (vc_region ?_)))))))
  iterate 2 refine ya ?_
  refine vc_end (vq_then (vk2 2 3 (vc_ret ?_)))
  refine vq_ret2 st (.inl rfl) results110 (.tmp rfl) (.tmp rfl) ?_
  refine ⟨_, rfl, ?_⟩
  obtain rfl : j = 19 := by omega
  have he : findO s = none := findO_no hno
  rw [he]
  exact ⟨rfl, rfl⟩

end Go.Proofs.YtnmhlpnapgojjaaGreatDoor.Pq


namespace Go.Proofs.YtnmhlpnapgojjaaGreatDoor.Pq
open Go.RowKit Sx LexS ParS _root_.Go.Proofs.Tryz

theorem phere_any (c : PCtx) (r : List Tok) (hr : r <:+ c.ts) (w : World) (hC : PCok c w) (hP : PAt c r w) : Ret Tryz.prog 109 [.pointer (some ⟨c.pb, 0, none⟩)] w fun v w' => v = .agg (tkL (here r)).toArray ∧ Chg [] w w' := by
 obtain ⟨pb, n0, oa, cap, ts, e, TT, R, g⟩ := c
 dsimp only [PAt, pcell] at hr hP ⊢
 refine ret_of [_] func109 rfl ntmps109 rfl ?_
  
 obtain ⟨w0, rfl⟩ : ∃ w0, w0 = w := ⟨_, rfl⟩
 have st := St.of1 [] hP
 refine vc_seq (vc_region ?_)
 refine vc_e (e_al (l := [_, _, _, _]) st rfl rfl zeroValue118 rfl ?_)
 intro b2 w hb2 st
 refine vc_end (vq_then (vk2 0 2 (vc_seq (vc_seq ?_))))
 refine vc_draw Tryz.mixed [(0, true), (1, true), (2, true), (3, true), (4, true), (5, true), (6, true), (7, true), (8, true), (9, true)] (fun w => St _ _ _ w) st (by kernel_rfl) (by repeat (first | exact okQ_noPan | exact okQ_body | exact okQ_bodyS | refine okQ_then ?_ | refine okQ_block ?_)) rfl (by kernel_rfl) ?_
 intro w cd; replace st := st.call0 cd; clear cd
 have hS := st
 refine pm hS ?_
 refine pnk hS ?_
 refine pfz hS 1 underlying91 sizeOf3 ?_
 refine pld hS 1 isAgg3 ?_
 refine pm hS ?_
 refine pnk hS ?_
 refine pf0 hS underlying91 sizeOf89 ?_
 refine pld hS 1 isAgg89 ?_
 refine vp_take rfl rfl rfl hS (fun w st => y_lensl rfl underlying89) ?_
 refine vp_take rfl rfl rfl hS (fun w st => y_lss rfl rfl) ?_
 refine vp_end (vq_then (vk3 0 2 12 ?_))
 refine vc_ifs rfl ?_ ?_
 ·intro hc12
  try simp only [dn] at hc12
  have hne : r ≠ [] := by rintro rfl; simp at hc12
  obtain ⟨tb, tq, hoa, hc⟩ := hC.tok hr hne
  have hlt := (suf_get hr hne).2
  dsimp only at hoa hc hlt
  subst hoa
  refine vc_seq ?_
  refine vc_draw Tryz.mixed [(0, true), (1, true), (2, true), (3, true), (4, true), (5, true), (6, true), (7, true), (8, true), (9, true), (10, false)] (fun w => St _ _ [.blk pb (.cells [.slice (some ⟨tb, tq, none⟩) ts.length cap, .int .i64 ((ts.length - r.length : Nat) : Int), .int .i64 (e : Int)].toArray TT (0, 0))] w) st.dr (by kernel_rfl) (by repeat (first | exact okQ_noPan | exact okQ_body | exact okQ_bodyS | refine okQ_then ?_ | refine okQ_block ?_)) rfl (by kernel_rfl) ?_
  intro w cd; replace st := st.call0 cd; clear cd
  have hS : St _ _ [.blk pb (.cells [.slice (some ⟨tb, tq, none⟩) ts.length cap, .int .i64 ((ts.length - r.length : Nat) : Int), .int .i64 (e : Int)].toArray TT (0, 0))] w := st.dr
  refine pm hS ?_
  refine pnk hS ?_
  refine pf0 hS underlying91 sizeOf89 ?_
  refine pld hS 0 isAgg89 ?_
  refine pm hS ?_
  refine pnk hS ?_
  refine pfz hS 1 underlying91 sizeOf3 ?_
  refine pld hS 0 isAgg3 ?_
  refine vp_take rfl rfl rfl hS (fun w st => y_ia (k := (ts.length - r.length)) rfl rfl underlying89 sizeOf118 rfl (hlt)) ?_
  refine vp_take rfl rfl rfl hS (fun w st => y_ldca (tkL (here r)) rfl isAgg118 sizeOf118 rfl (fun i v hi => st.chg.cell (hc i v hi) (by simp))) ?_
  refine vp_do rfl (e_sts (vs := [_, _, _, _]) st 0 rfl rfl rfl rfl rfl sizeOf118 rfl rfl (by (right; assumption)) ?_)
  intro w st; dsimp only [setNth, wr] at st
  refine vp_next st.dr ?_; intro hS
  refine vp_end (vq_then (vk1 2 (vc_ret (vq_then_ret ?_))))
  refine vq_ret1 st (.inl rfl) results109 (by exact .cell 0 rfl rfl isAgg118 sizeOf118) ?_
  refine ⟨_, rfl, ?_⟩
  exact ⟨rfl, st.chg⟩
 ·intro hc12
  try simp only [dn] at hc12
  have h0 : r.length = 0 := by have := suf_len hr; omega
  refine vc_code_skip (vq_then (vk1 2 (vc_seq (vc_region ?_))))
  refine vy (y_bld (.agg #[_, _, _, _]) [] rfl (fun w => by simp [Instr.build, go_sem] <;> repeat' constructor)) ?_
  refine vc_e (e_sts (vs := [_, _, _, _]) st 0 rfl rfl rfl rfl rfl sizeOf118 rfl rfl (by (right; assumption)) ?_)
  intro w st; dsimp only [setNth, wr] at st
  refine vc_end (vq_then (vk1 2 (vc_ret ?_)))
  refine vq_ret1 st (.inl rfl) results109 (by exact .cell 0 rfl rfl isAgg118 sizeOf118) ?_
  refine ⟨_, rfl, ?_⟩
  rw [here_nil h0]; exact ⟨rfl, st.chg⟩

theorem pat_any (c : PCtx) (r : List Tok) (hr : r <:+ c.ts) (w : World) (hC : PCok c w) (hP : PAt c r w) : Ret Tryz.prog 112 [.pointer (some ⟨c.pb, 0, none⟩)] w fun v w' => v = .int .i64 (atT c.e r : Int) ∧ Chg [] w w' := by
 obtain ⟨pb, n0, oa, cap, ts, e, TT, R, g⟩ := c
 dsimp only [PAt, pcell] at hr hP ⊢
 refine ret_of [_] func112 rfl ntmps112 rfl ?_
  
 obtain ⟨w0, rfl⟩ : ∃ w0, w0 = w := ⟨_, rfl⟩
 have st := St.of1 [] hP
 refine vc_seq (vc_region ?_)
 refine ya ?_
 refine vc_end (vq_then (vk1 0 (vc_seq (vc_seq ?_))))
 refine vc_draw Tryz.mixed [(0, true), (1, true), (2, true), (3, true), (4, true), (5, true), (6, true), (7, true), (8, true), (9, true)] (fun w => St _ _ _ w) st (by kernel_rfl) (by repeat (first | exact okQ_noPan | exact okQ_body | exact okQ_bodyS | refine okQ_then ?_ | refine okQ_block ?_)) rfl (by kernel_rfl) ?_
 intro w cd; replace st := st.call0 cd; clear cd
 have hS := st
 refine pm hS ?_
 refine pnk hS ?_
 refine pfz hS 1 underlying91 sizeOf3 ?_
 refine pld hS 0 isAgg3 ?_
 refine pm hS ?_
 refine pnk hS ?_
 refine pf0 hS underlying91 sizeOf89 ?_
 refine pld hS 0 isAgg89 ?_
 refine vp_take rfl rfl rfl hS (fun w st => y_lensl rfl underlying89) ?_
 refine vp_take rfl rfl rfl hS (fun w st => y_lss rfl rfl) ?_
 refine vp_end (vq_then (vk2 0 12 ?_))
 refine vc_ifs rfl ?_ ?_
 ·intro hc12
  try simp only [dn] at hc12
  have hne : r ≠ [] := by rintro rfl; simp at hc12
  obtain ⟨tb, tq, hoa, hc⟩ := hC.tok hr hne
  have hlt := (suf_get hr hne).2
  dsimp only at hoa hc hlt
  subst hoa
  refine vc_seq ?_
  refine vc_draw Tryz.mixed [(0, true), (1, true), (2, true), (3, true), (4, true), (5, true), (6, true), (7, true), (8, true), (9, true), (10, true), (11, true)] (fun w => St _ _ _ w) st (by kernel_rfl) (by repeat (first | exact okQ_noPan | exact okQ_body | exact okQ_bodyS | refine okQ_then ?_ | refine okQ_block ?_)) rfl (by kernel_rfl) ?_
  intro w cd; replace st := st.call0 cd; clear cd
  have hS := st
  refine pm hS ?_
  refine pnk hS ?_
  refine pf0 hS underlying91 sizeOf89 ?_
  refine pld hS 0 isAgg89 ?_
  refine pm hS ?_
  refine pnk hS ?_
  refine pfz hS 1 underlying91 sizeOf3 ?_
  refine pld hS 0 isAgg3 ?_
  refine vp_take rfl rfl rfl hS (fun w st => y_ia (k := (ts.length - r.length)) rfl rfl underlying89 sizeOf118 rfl (hlt)) ?_
  refine vp_take rfl rfl rfl hS (fun w st => y_fa (k := 3) rfl underlying118 rfl rfl sizeOf3 rfl) ?_
  refine vp_take rfl rfl rfl hS (fun w st => y_ldc rfl isAgg3 (st.chg.cell (hc 3 _ rfl) (by simp))) ?_
  refine vp_take rfl rfl rfl hS (fun w st => y_as rfl) ?_
  refine vp_end (vq_then (vk1 2 (vc_ret (vq_then_ret ?_))))
  refine vq_ret1 st (.inl rfl) results112 (.tmp rfl) ?_
  refine ⟨_, rfl, ?_⟩
  rw [atT_cons hne]; exact ⟨rfl, st.chg⟩
 ·intro hc12
  try simp only [dn] at hc12
  have h0 : r.length = 0 := by have := suf_len hr; omega
  refine vc_code_skip (vq_then (vk1 0 (vc_seq (vc_region ?_))))
  refine ym ?_
  refine ynk ?_
  refine yfz 2 underlying91 sizeOf3 ?_
  refine yl st 0 isAgg3 ?_
  refine ya ?_
  refine vc_end (vq_then (vk1 2 (vc_ret ?_)))
  refine vq_ret1 st (.inl rfl) results112 (.tmp rfl) ?_
  refine ⟨_, rfl, ?_⟩
  rw [atT_nil h0]; exact ⟨rfl, st.chg⟩

theorem pis_any (c : PCtx) (s : List UInt8) (r : List Tok) (hr : r <:+ c.ts) (w : World) (hC : PCok c w) (hP : PAt c r w) : Ret Tryz.prog 90 [.pointer (some ⟨c.pb, 0, none⟩), str s] w fun v w' => v = .bool (isT s r) ∧ Chg [] w w' := by
 refine ret_of [_, _] func90 rfl ntmps90 rfl ?_
 have st := St.init w []
 obtain ⟨w0, rfl⟩ : ∃ w0, w0 = w := ⟨_, rfl⟩
 refine vc_seq (vc_region ?_)
 refine ya ?_
 refine vc_end (vq_then (vk2 0 1 (vc_seq (vc_region ?_))))
 refine ym ?_
 refine vc_e (e_call [_] rfl rfl call109 rfl (phere_any c r hr _ hC hP) ?_)
 rintro _ w ⟨rfl, cw⟩
 replace st := st.call0 cw
 refine vc_e (e_al (l := [_, _, _, _]) st rfl rfl zeroValue118 rfl ?_)
 intro b5 w hb5 st
 refine vc_e (e_sts (vs := [_, _, _, _]) st 0 rfl rfl rfl rfl rfl sizeOf118 rfl rfl (by (right; assumption)) ?_)
 intro w st; dsimp only [setNth, wr] at st
 refine vc_end (vq_then (vk2 1 5 (vc_seq (vc_region ?_))))
 refine yfz 1 underlying118 sizeOf9 ?_
 refine yl st 0 isAgg9 ?_
 refine ym ?_
 refine vy (y_eqs rfl rfl) ?_
 refine vmb ?_ ?_
 ·intro hg12
  try simp only [dn] at hg12
  refine vy (y_fa0 rfl underlying118 rfl rfl sizeOf116 rfl) ?_
  refine yl st 0 isAgg116 ?_
  refine vy (y_eqi rfl rfl) ?_
  refine vmb ?_ ?_
  ·intro hg16
   try simp only [dn] at hg16
   iterate 3 refine vsk ?_
   iterate 2 refine ypt ?_
   refine ya ?_
   refine vc_end (vq_then (vk1 4 (vc_ret ?_)))
   refine vq_ret1 st (.inl rfl) results90 (.tmp rfl) ?_
   refine ⟨_, rfl, ?_⟩
   have hk2 : ((here r).kind : Int) = 2 ↔ (here r).kind = 2 := by omega
   have hk4 : ((here r).kind : Int) = 4 ↔ (here r).kind = 4 := by omega
   refine ⟨?_, st.chg⟩
   unfold isT
   simp_all
  ·intro hg16
   try simp only [dn] at hg16
   refine vy (y_fa0 rfl underlying118 rfl rfl sizeOf116 rfl) ?_
   refine yl st 0 isAgg116 ?_
   refine vy (y_eqi rfl rfl) ?_
   refine ypf ?_
   refine ypt ?_
   refine ya ?_
   refine vc_end (vq_then (vk1 4 (vc_ret ?_)))
   refine vq_ret1 st (.inl rfl) results90 (.tmp rfl) ?_
   refine ⟨_, rfl, ?_⟩
   have hk2 : ((here r).kind : Int) = 2 ↔ (here r).kind = 2 := by omega
   have hk4 : ((here r).kind : Int) = 4 ↔ (here r).kind = 4 := by omega
   refine ⟨?_, st.chg⟩
   unfold isT
   simp_all
 ·intro hg12
  try simp only [dn] at hg12
  iterate 8 refine vsk ?_
  refine ypf ?_
  refine ya ?_
  refine vc_end (vq_then (vk1 4 (vc_ret ?_)))
  refine vq_ret1 st (.inl rfl) results90 (.tmp rfl) ?_
  refine ⟨_, rfl, ?_⟩
  have hk2 : ((here r).kind : Int) = 2 ↔ (here r).kind = 2 := by omega
  have hk4 : ((here r).kind : Int) = 4 ↔ (here r).kind = 4 := by omega
  refine ⟨?_, st.chg⟩
  unfold isT
  simp_all

theorem ptake_any (c : PCtx) (s : List UInt8) (r : List Tok) (hr : r <:+ c.ts) (w : World) (hC : PCok c w) (hP : PAt c r w) : Ret Tryz.prog 86 [.pointer (some ⟨c.pb, 0, none⟩), str s] w fun v w' => v = .bool (isT s r) ∧ PAt c (if isT s r = true then r.tail else r) w' ∧ Chg [c.pb] w w' := by
 refine ret_of [_, _] func86 rfl ntmps86 rfl ?_
  
 obtain ⟨w0, rfl⟩ : ∃ w0, w0 = w := ⟨_, rfl⟩
 have hP' := hP
 dsimp only [PAt, pcell] at hP
 have st := St.of1 [c.pb] hP
 have h20 := hC.len
 have hl := suf_len hr
 refine vc_seq (vc_region ?_)
 refine ya ?_
 refine vc_end (vq_then (vk2 0 1 (vc_seq (vc_seq (vc_region ?_)))))
 iterate 2 refine ym ?_
 refine vc_e (e_call [_, _] rfl rfl call90 rfl (pis_any c s r hr _ hC hP') ?_)
 rintro _ w ⟨rfl, cw⟩
 replace st := st.call0 cw
 refine vy (y_not rfl) ?_
 refine vc_end (vq_then (vk2 0 8 ?_))
 refine vc_ifs rfl ?_ ?_
 ·intro hc8
  try simp only [dn] at hc8
  have hF : isT s r = false := by simpa using hc8
  refine vc_seq (vc_region ?_)
  refine ya ?_
  refine vc_end (vq_then (vk1 4 (vc_ret (vq_then_ret ?_))))
  refine vq_ret1 st (.inl rfl) results86 (.tmp rfl) ?_
  refine ⟨_, rfl, ?_⟩
  rw [hF]
  exact ⟨rfl, st.res (i := 0) rfl, st.chg⟩
 ·intro hc8
  try simp only [dn] at hc8
  have hT : isT s r = true := by simpa using hc8
  have ht := tail_lt (isT_ne hT)
  have ht2 : r.tail.length = r.length - 1 := List.length_tail
  refine vc_code_skip (vq_then (vk1 0 (vc_seq (vc_region ?_))))
  refine ym ?_
  refine ynk ?_
  refine yfz 1 underlying91 sizeOf3 ?_
  refine yl st 0 isAgg3 ?_
  refine vy (y_add rfl rfl (by omega : _ = ((c.ts.length - r.tail.length : Nat) : Int)) (by omega) (by omega)) ?_
  refine ynk ?_
  refine yfz 1 underlying91 sizeOf3 ?_
  refine vc_e (e_st st 0 rfl rfl rfl rfl sizeOf3 rfl rfl (by (left; simp)) ?_)
  intro w st; dsimp only [setNth, wr] at st
  refine vc_end (vq_then (vc_keep [] trivial (vc_seq (vc_region ?_))))
  refine ya ?_
  refine vc_end (vq_then (vk1 4 (vc_ret ?_)))
  refine vq_ret1 st (.inl rfl) results86 (.tmp rfl) ?_
  refine ⟨_, rfl, ?_⟩
  rw [hT]
  exact ⟨rfl, st.res (i := 0) rfl, st.chg⟩

theorem pnext_any (c : PCtx) (r : List Tok) (hr : r <:+ c.ts) (hne : r ≠ []) (w : World) (hC : PCok c w) (hP : PAt c r w) : Ret Tryz.prog 111 [.pointer (some ⟨c.pb, 0, none⟩)] w fun v w' => v = .agg (tkL (here r)).toArray ∧ PAt c r.tail w' ∧ Chg [c.pb] w w' := by
 refine ret_of [_] func111 rfl ntmps111 rfl ?_
  
 obtain ⟨w0, rfl⟩ : ∃ w0, w0 = w := ⟨_, rfl⟩
 have hP' := hP
 dsimp only [PAt, pcell] at hP
 have st := St.of1 [c.pb] hP
 have h20 := hC.len
 have hl := suf_len hr
 have ht := tail_lt hne
 have ht2 : r.tail.length = r.length - 1 := List.length_tail
 replace st := st.call0 (Chg.refl _ _)
 have stP := hP'
 refine vc_seq (vc_region ?_)
 refine vc_e (e_al (l := [_, _, _, _]) st rfl rfl zeroValue118 rfl ?_)
 intro b2 w hb2 st
 refine vc_end (vq_then (vk2 0 2 (vc_seq (vc_region ?_))))
 refine ym ?_
 refine vc_e (e_call [_] rfl rfl call109 rfl (phere_any c r hr _ (hC.k1 st.chg) (st.res (i := 1) rfl)) ?_)
 rintro _ w ⟨rfl, cw⟩
 replace st := st.call0 cw
 refine vc_e (e_al (l := [_, _, _, _]) st rfl rfl zeroValue118 rfl ?_)
 intro b3 w hb3 st
 refine vc_e (e_sts (vs := [_, _, _, _]) st 0 rfl rfl rfl rfl rfl sizeOf118 rfl rfl (by (right; assumption)) ?_)
 intro w st; dsimp only [setNth, wr] at st
 refine vc_end (vq_then (vk3 0 2 3 (vc_seq (vc_region ?_))))
 refine ym ?_
 refine ynk ?_
 refine yfz 1 underlying91 sizeOf3 ?_
 refine yl st 2 isAgg3 ?_
 refine vy (y_add rfl rfl (by omega : _ = ((c.ts.length - r.tail.length : Nat) : Int)) (by omega) (by omega)) ?_
 refine ynk ?_
 refine yfz 1 underlying91 sizeOf3 ?_
 refine vc_e (e_st st 2 rfl rfl rfl rfl sizeOf3 rfl rfl (by (left; simp)) ?_)
 intro w st; dsimp only [setNth, wr] at st
 refine vc_end (vq_then (vk2 2 3 (vc_seq (vc_region ?_))))
 refine yla st 0 [_, _, _, _] isAgg118 sizeOf118 ?_
 refine vc_e (e_sts (vs := [_, _, _, _]) st 1 rfl rfl rfl rfl rfl sizeOf118 rfl rfl (by (right; assumption)) ?_)
 intro w st; dsimp only [setNth, wr] at st
 refine vc_end (vq_then (vk1 2 (vc_ret ?_)))
 refine vq_ret1 st (.inl rfl) results111 (by exact .cell 1 rfl rfl isAgg118 sizeOf118) ?_
 refine ⟨_, rfl, ?_⟩
 exact ⟨rfl, st.res (i := 2) rfl, st.chg⟩

theorem pfail_any (c : PCtx) (rule : Nat) (r : List Tok) (hr : r <:+ c.ts) (w : World) (hC : PCok c w) (hP : PAt c r w) (hR : c.R = 75) : RetP Tryz.prog 50 [.pointer (some ⟨c.pb, 0, none⟩), .int .i64 (rule : Int)] w (fun _ _ => False) (fun v w' => v = refV c (atT c.e r, rule) ∧ Chg [] w w') := by
 refine retp_of [_, _] func50 rfl ntmps50 rfl ?_
 have st := St.init w []
 obtain ⟨w0, rfl⟩ : ∃ w0, w0 = w := ⟨_, rfl⟩
 refine vc_region ?_
 refine ym ?_
 refine vc_e (e_call [_] rfl rfl call112 rfl (pat_any c r hr _ hC hP) ?_)
 rintro _ w ⟨rfl, cw⟩
 replace st := st.call0 cw
 refine ym ?_
 refine vy (y_bld (.agg #[_, _]) [(0, _), (1, _)] rfl (fun w => by simp [Instr.build, go_sem] <;> repeat' constructor)) ?_
 refine vy (y_bld (.agg #[_, _]) [(0, _)] rfl (fun w => by simp [Instr.build, go_sem] <;> repeat' constructor)) ?_
 refine vy (y_mki rfl underlying75) ?_
 refine vc_e (e_panicI rfl rfl (fun a ha => And.intro ha (Or.inr ⟨_, rfl, by rw [refV, hR], st.chg⟩)))

theorem pwant_any (c : PCtx) (ss : List (List UInt8)) (hss : ss.length ≤ 4) (lb n cap E : Nat) (hn : n = ss.length) (r : List Tok) (hr : r <:+ c.ts) (w : World) (hC : PCok c w) (hP : PAt c r w) (hR : c.R = 75)
    (hL : w.heap[lb]? = some (.cells (ss.map str).toArray E (0, 0))) (hne : lb ≠ c.pb) : RetP Tryz.prog 145 [.pointer (some ⟨c.pb, 0, none⟩), .slice (some ⟨lb, 0, none⟩) n cap] w
  (fun v w' => ∃ r', wantL c.e ss r = .ok r' ∧ r' <:+ r ∧ r'.length + ss.length ≤ r.length ∧ PAt c r' w' ∧ Chg [c.pb] w w') (PErr c (wantL c.e ss r) [c.pb] w) := by
 refine retp_of [_, _] func145 rfl ntmps145 rfl ?_
  
 obtain ⟨w0, rfl⟩ : ∃ w0, w0 = w := ⟨_, rfl⟩
 subst hn
 have hP' := hP
 dsimp only [PAt, pcell] at hP
 have st := St.of1 [c.pb] hP
 have h20 := hC.len
 have hl := suf_len hr
 refine vc_seq (vc_region ?_)
 refine ym ?_
 refine vy (y_lensl rfl underlying50) ?_
 refine ym ?_
 refine vc_end (vq_then (vk4 0 6 7 8 (vc_block ?_)))
 refine vc_loop (w0 := w0) (M := [c.pb]) (fun (y : Nat × List Tok) => [(0, .pointer (some ⟨c.pb, 0, none⟩)), (6, .slice (some ⟨lb, 0, none⟩) ss.length cap), (7, .int .i64 (ss.length : Int)), (8, .int .i64 (y.1 : Int))]) (fun y => [.blk c.pb (.cells (pcell c y.2).toArray c.T (0, 0))]) (fun y _ => y.1 ≤ ss.length ∧ y.2 <:+ r ∧ y.2.length + y.1 ≤ r.length ∧ wantL c.e ss r = wantL c.e (ss.drop y.1) y.2) (fun y => ss.length - y.1) (0, r) ⟨rfl, rfl, rfl, rfl, trivial⟩ st ⟨by simp, List.suffix_refl _, by simp, by simp⟩ ?_
 clear st
 rintro ⟨j, r1⟩ w ⟨hj, hr1, hl1, hw⟩ st
 dsimp only at hj hr1 hl1 hw st
 refine vc_seq (vc_region ?_)
 refine vy (y_lss rfl rfl) ?_
 refine vc_end (vq_then (vk5 0 6 7 8 9 (vc_seq ?_)))
 refine vc_ifs rfl ?_ ?_
 ·intro hc9
  try simp only [dn] at hc9
  have hjl : j < ss.length := by omega
  obtain ⟨s, hs⟩ : ∃ s, ss[j]? = some s := ⟨_, List.getElem?_eq_getElem hjl⟩
  have hcell : w0.cell? ⟨lb, j * 1, none⟩ = some (str s) := cell_blk hL (by rw [nth_eq, Nat.mul_one]; simp [hs])
  have hd : ss.drop j = s :: ss.drop (j + 1) := by rw [List.drop_eq_getElem_cons hjl]; congr 1; rw [List.getElem?_eq_getElem hjl] at hs; exact Option.some.inj hs
  rw [hd] at hw
  have hr2 := hr1.trans hr
  refine vc_code_skip (vq_then (vk4 0 6 7 8 (vc_seq (vc_block (vc_seq (vc_region ?_))))))
  refine vy (y_ia0 (k := j) rfl rfl underlying50 sizeOf9 rfl (by omega)) ?_
  refine vy (y_ldc rfl isAgg9 (st.chg.cell hcell (by simpa using hne))) ?_
  refine ya ?_
  refine vc_end (vq_then (vk5 0 5 6 7 8 (vc_seq (vc_region ?_))))
  iterate 2 refine ym ?_
  refine vc_e (e_call [_, _] rfl rfl call86 rfl (ptake_any c s r1 hr2 _ (hC.k1 st.chg) (st.res (i := 0) rfl)) ?_)
  rintro _ w ⟨rfl, hP1, cw⟩
  replace st := st.prs 0 rfl cw (.inl (.head _)) hP1
  dsimp only [setNth] at st
  refine vy (y_not rfl) ?_
  refine vc_end (vq_then (vk5 0 6 7 8 15 ?_))
  refine vc_ifs rfl ?_ ?_
  ·intro hc15
   try simp only [dn] at hc15
   have hF : isT s r1 = false := by simpa using hc15
   simp only [hF, Bool.false_eq_true, if_false] at st
   refine vc_region ?_
   refine ym ?_
   refine vc_e (e_callp [_, _] rfl rfl call50 rfl (pfail_any c 2 r1 hr2 _ (hC.k1 st.chg) (st.res (i := 0) rfl) hR) (by rintro _ w' ⟨rfl, ch⟩ a ha; exact And.intro ha (Or.inr ⟨_, rfl, (atT c.e r1, 2), by rw [hw]; simp only [wantL, want_neg hF], rfl, st.chg.trans ch.of_nil⟩)) (fun _ _ h => h.elim))
  ·intro hc15
   try simp only [dn] at hc15
   have hT : isT s r1 = true := by simpa using hc15
   simp only [hT, if_true] at st
   have ht := tail_lt (isT_ne hT)
   refine vc_code_skip (vq_block (vq_then (vk4 0 6 7 8 (vc_region ?_))))
   refine vy (y_add rfl rfl (by omega : _ = ((j + 1 : Nat) : Int)) (by omega) (by omega)) ?_
   refine ym ?_
   refine vc_end ?_
   refine vq_again (j + 1, r1.tail)  ⟨rfl, rfl, rfl, rfl, trivial⟩ st ?_ ?_
   ·exact ⟨by dsimp only; omega, (List.tail_suffix _).trans hr1, by dsimp only; omega, by rw [hw]; simp only [wantL, want_pos hT]⟩
   ·dsimp only; omega
 ·intro hc9
  try simp only [dn] at hc9
  refine vc_exit (vq_then_exit (vq_then_exit (vq_block_exit ?_)))
  refine vq_ret0 (.inr rfl) results145 ?_
  refine .inl ⟨_, rfl, ?_⟩
  obtain rfl : j = ss.length := by omega
  rw [List.drop_length] at hw
  exact ⟨r1, hw, hr1, hl1, st.res (i := 0) rfl, st.chg⟩

end Go.Proofs.YtnmhlpnapgojjaaGreatDoor.Pq


namespace Go.Proofs.YtnmhlpnapgojjaaGreatDoor.Pq
open Go.RowKit Sx LexS ParS _root_.Go.Proofs.Tryz
theorem Tryz.info63 : Tryz.prog.info? 63 = some Tryz.t63 := by kernel_rfl

theorem pname_any (c : PCtx) (hR : c.R = 75) (r : List Tok) (hr : r <:+ c.ts) (w : World) (hC : PCok c w) (hP : PAt c r w) : RetP Tryz.prog 146 [.pointer (some ⟨c.pb, 0, none⟩)] w
    (PRes c r (nameP c.e r) [c.pb] w fun t v _ => v = .agg (tkL t).toArray) (PErr c (nameP c.e r) [c.pb] w) := by
  refine retp_of [_] func146 rfl ntmps146 rfl ?_
  
  obtain ⟨w0, rfl⟩ : ∃ w0, w0 = w := ⟨_, rfl⟩
  have hP' := hP
  dsimp only [PAt, pcell] at hP
  have st := St.of1 [c.pb] hP
  have h20 := hC.len
  have hl := suf_len hr
  refine vc_seq (vc_region ?_)
  refine vc_e (e_al (l := [_, _, _, _]) st rfl rfl zeroValue118 rfl ?_)
  intro b2 w hb2 st
  refine vc_end (vq_then (vk2 0 2 (vc_seq (vc_seq (vc_region ?_)))))
  refine ym ?_
  refine vc_e (e_call [_] rfl rfl call109 rfl (phere_any c r hr _ (hC.k1 st.chg) (by exact st.res (i := 1) rfl)) ?_)
  rintro _ w ⟨rfl, cw⟩
  replace st := st.call0 cw
  refine vy (y_fld rfl underlying118 rfl rfl isAgg116 rfl) ?_
  refine vy (y_nei rfl rfl) ?_
  refine vc_end (vq_then (vk3 0 2 6 ?_))
  refine vc_ifs rfl ?_ ?_
  · intro hc6
    try simp only [dn] at hc6
    have hk : ¬ (here r).kind = 1 := by omega
    have hs : nameP c.e r = fail c.e 2 r := by unfold nameP; rw [if_neg hk]
    refine vc_region ?_
    refine ym ?_
    refine vc_e (e_callp [_, _] rfl rfl call50 rfl (pfail_any c 2 r hr _ (hC.k1 st.chg) (by exact st.res (i := 1) rfl) hR) (by rintro _ w' ⟨rfl, ch⟩ a ha; exact And.intro ha (Or.inr ⟨_, rfl, (atT c.e r, 2), by rw [hs]; rfl, rfl, st.chg.trans ch.of_nil⟩)) (fun _ _ h => h.elim))
  · intro hc6
    try simp only [dn] at hc6
    have hk : (here r).kind = 1 := by omega
    have hs : nameP c.e r = .ok (here r, r.tail) := by unfold nameP; rw [if_pos hk]
    have hne := kind_ne hk (by decide)
    have hlt := tail_lt hne
    refine vc_code_skip (vq_then (vk2 0 2 (vc_seq (vc_region ?_))))
    refine ym ?_
    refine vc_e (e_call [_] rfl rfl call111 rfl (pnext_any c r hr hne _ (hC.k1 st.chg) (by exact st.res (i := 1) rfl)) ?_)
    rintro _ w ⟨rfl, hP1, cw⟩
    replace st := St.prs (b := c.pb) st 1 rfl cw (.inl (.head _)) hP1
    dsimp only [setNth] at st
    refine vc_e (e_sts (vs := [_, _, _, _]) st 0 rfl rfl rfl rfl rfl sizeOf118 rfl rfl (by (right; assumption)) ?_)
    intro w st; dsimp only [setNth, wr] at st
    refine vc_end (vq_then (vk1 2 (vc_ret ?_)))
    refine vq_ret1 st (.inl rfl) results146 (by exact .cell 0 rfl rfl isAgg118 sizeOf118) ?_
    refine .inl ⟨_, rfl, ?_⟩
    exact ⟨_, _, hs, List.tail_suffix _, hlt, (by exact st.res (i := 1) rfl), st.chg, rfl⟩

theorem pdecl_any (c : PCtx) (hR : c.R = 75) (r : List Tok) (hr : r <:+ c.ts) (w : World) (hC : PCok c w) (hP : PAt c r w) : RetP Tryz.prog 89 [.pointer (some ⟨c.pb, 0, none⟩)] w
    (PRes c r (declP c.e r) [c.pb] w fun d v _ => v = .agg (dcL d).toArray) (PErr c (declP c.e r) [c.pb] w) := by
  refine retp_of [_] func89 rfl ntmps89 rfl ?_
  
  obtain ⟨w0, rfl⟩ : ∃ w0, w0 = w := ⟨_, rfl⟩
  have hP' := hP
  dsimp only [PAt, pcell] at hP
  have st := St.of1 [c.pb] hP
  have h20 := hC.len
  have hl := suf_len hr
  have hs := declP.eq_1 c.e r
  refine vc_seq (vc_region ?_)
  refine vc_e (e_al (l := [_, _, _]) st rfl rfl zeroValue63 rfl ?_)
  intro b2 w hb2 st
  refine vc_end (vq_then (vk2 0 2 (vc_seq (vc_region ?_))))
  refine ym ?_
  refine vc_e (e_callp [_] rfl rfl call146 rfl (pname_any c hR r hr _ (hC.k1 st.chg) (by exact st.res (i := 1) rfl)) (by rintro _ w' ⟨f, hf, rfl, ch⟩ a ha; exact And.intro ha (Or.inr ⟨_, rfl, f, by rw [hs, hf], rfl, st.chg.trans ch⟩)) ?_)
  rintro _ w ⟨t, r1, hx, hsf, hln, hP1, cw, rfl⟩
  replace st := St.prs (b := c.pb) st 1 rfl cw (.inl (.head _)) hP1
  dsimp only [setNth] at st
  rw [hx] at hs; dsimp only at hs
  have hr1 := hsf.trans hr
  refine vc_e (e_al (l := [_, _, _, _]) st rfl rfl zeroValue118 rfl ?_)
  intro b3 w hb3 st
  refine vc_e (e_sts (vs := [_, _, _, _]) st 0 rfl rfl rfl rfl rfl sizeOf118 rfl rfl (by (right; assumption)) ?_)
  intro w st; dsimp only [setNth, wr] at st
  refine vc_end (vq_then (vk2 2 3 (vc_seq (vc_region ?_))))
  refine yfz 1 underlying118 sizeOf9 ?_
  refine yl st 0 isAgg9 ?_
  refine yfz 3 underlying118 sizeOf3 ?_
  refine yl st 0 isAgg3 ?_
  refine vy (y_bld (.agg #[_, _, _]) [(0, _), (2, _)] rfl (fun w => by simp [Instr.build, go_sem] <;> repeat' constructor)) ?_
  refine vc_e (e_sts (vs := [_, _, _]) st 1 rfl rfl rfl rfl rfl sizeOf63 rfl rfl (by (right; assumption)) ?_)
  intro w st; dsimp only [setNth, wr] at st
  refine vc_end (vq_then (vk1 2 (vc_ret ?_)))
  refine vq_ret1 st (.inl rfl) results89 (by exact .cell 1 rfl rfl isAgg63 sizeOf63) ?_
  refine .inl ⟨_, rfl, ?_⟩
  exact ⟨_, _, hs, hsf, hln, (by exact st.res (i := 2) rfl), st.chg, rfl⟩

theorem pinit_any (c : PCtx) (hR : c.R = 75) (r : List Tok) (hr : r <:+ c.ts) (w : World) (hC : PCok c w) (hP : PAt c r w) : RetP Tryz.prog 88 [.pointer (some ⟨c.pb, 0, none⟩)] w
    (PRes c r (initP c.e r) [c.pb] w fun d v _ => v = .agg (dcL d).toArray) (PErr c (initP c.e r) [c.pb] w) := by
  refine retp_of [_] func88 rfl ntmps88 rfl ?_
  
  obtain ⟨w0, rfl⟩ : ∃ w0, w0 = w := ⟨_, rfl⟩
  have hP' := hP
  dsimp only [PAt, pcell] at hP
  have st := St.of1 [c.pb] hP
  have h20 := hC.len
  have hl := suf_len hr
  have hs := initP.eq_1 c.e r
  unfold declP at *
  refine vc_seq (vc_region ?_)
  refine vc_e (e_al (l := [_, _, _]) st rfl rfl zeroValue63 rfl ?_)
  intro b2 w hb2 st
  refine vc_end (vq_then (vk2 0 2 (vc_seq (vc_region ?_))))
  refine ym ?_
  refine vc_e (e_callp [_] rfl rfl call89 rfl (pdecl_any c hR r hr _ (hC.k1 st.chg) (by exact st.res (i := 1) rfl)) (by rintro _ w' ⟨f, hf, rfl, ch⟩ a ha; exact And.intro ha (Or.inr ⟨_, rfl, f, (by rw [hs]; unfold declP at hf; cases hn : nameP c.e r with | error g => rw [hn] at hf; exact hf | ok q => rw [hn] at hf; cases hf), rfl, st.chg.trans ch⟩)) ?_)
  rintro _ w ⟨d, r1, hx, hsf, hln, hP1, cw, rfl⟩
  replace st := St.prs (b := c.pb) st 1 rfl cw (.inl (.head _)) hP1
  dsimp only [setNth] at st
  obtain ⟨t, hn, rfl⟩ : ∃ t, nameP c.e r = .ok (t, r1) ∧ d = ⟨t.text, 0, (t.at_ : Int)⟩ := by
    unfold declP at hx
    cases hn : nameP c.e r with
    | error g => rw [hn] at hx; cases hx
    | ok q => rw [hn] at hx; cases hx; exact ⟨q.1, rfl, rfl⟩
  rw [hn] at hs; dsimp only at hs
  have hr1 := hsf.trans hr
  refine vc_e (e_al (l := [_, _, _]) st rfl rfl zeroValue63 rfl ?_)
  intro b3 w hb3 st
  refine vc_e (e_sts (vs := [_, _, _]) st 0 rfl rfl rfl rfl rfl sizeOf63 rfl rfl (by (right; assumption)) ?_)
  intro w st; dsimp only [setNth, wr] at st
  refine vc_end (vq_then (vk3 0 2 3 (vc_seq (vc_seq (vc_region ?_)))))
  refine ym ?_
  refine vc_e (e_call [_, _] rfl rfl call86 rfl (ptake_any c [61] r1 hr1 _ (hC.k1 st.chg) (by exact st.res (i := 2) rfl)) ?_)
  rintro _ w ⟨rfl, hP1, cw⟩
  replace st := St.prs (b := c.pb) st 2 rfl cw (.inl (.head _)) hP1
  dsimp only [setNth] at st
  refine vy (y_not rfl) ?_
  refine vc_end (vq_then (vk4 0 2 3 9 ?_))
  refine vc_ifs rfl ?_ ?_
  · intro hc9
    try simp only [dn] at hc9
    have hF : isT [61] r1 = false := by simpa using hc9
    simp only [hF, Bool.false_eq_true, if_false] at st hs
    refine vc_seq (vc_region ?_)
    refine yla st 0 [_, _, _] isAgg63 sizeOf63 ?_
    refine vc_e (e_sts (vs := [_, _, _]) st 1 rfl rfl rfl rfl rfl sizeOf63 rfl rfl (by (right; assumption)) ?_)
    intro w st; dsimp only [setNth, wr] at st
    refine vc_end (vq_then (vk1 2 (vc_ret (vq_then_ret ?_))))
    refine vq_ret1 st (.inl rfl) results88 (by exact .cell 1 rfl rfl isAgg63 sizeOf63) ?_
    refine .inl ⟨_, rfl, ?_⟩
    exact ⟨_, _, hs, hsf, hln, (by exact st.res (i := 2) rfl), st.chg, rfl⟩
  · intro hc9
    try simp only [dn] at hc9
    have hT : isT [61] r1 = true := by simpa using hc9
    simp only [hT, if_true] at st hs
    have ht := tail_lt (isT_ne hT)
    have hr2 := suf_tail hr1
    refine vc_code_skip (vq_then (vk3 0 2 3 (vc_seq (vc_region ?_))))
    refine ym ?_
    refine vc_e (e_call [_, _] rfl rfl call86 rfl (ptake_any c [45] r1.tail hr2 _ (hC.k1 st.chg) (by exact st.res (i := 2) rfl)) ?_)
    rintro _ w ⟨rfl, hP1, cw⟩
    replace st := St.prs (b := c.pb) st 2 rfl cw (.inl (.head _)) hP1
    dsimp only [setNth] at st
    obtain ⟨r3, hr3e⟩ : ∃ r3, r3 = (if isT [45] r1.tail = true then r1.tail.tail else r1.tail) := ⟨_, rfl⟩
    have hsf3 : r3 <:+ r1.tail := by rw [hr3e]; split; exact List.tail_suffix _; exact List.suffix_refl _
    rw [← hr3e] at st hs
    have hr3 := hsf3.trans hr2
    unfold wordP at hs
    refine ya ?_
    refine vc_end (vq_then (vk4 0 2 3 4 (vc_seq (vc_seq (vc_region ?_)))))
    refine ym ?_
    refine vc_e (e_call [_] rfl rfl call109 rfl (phere_any c r3 hr3 _ (hC.k1 st.chg) (by exact st.res (i := 2) rfl)) ?_)
    rintro _ w ⟨rfl, cw⟩
    replace st := st.call0 cw
    refine vy (y_fld rfl underlying118 rfl rfl isAgg116 rfl) ?_
    refine vy (y_nei rfl rfl) ?_
    refine vc_end (vq_then (vk5 0 2 3 4 16 ?_))
    refine vc_ifs rfl ?_ ?_
    · intro hc16
      try simp only [dn] at hc16
      have hk : ¬ (here r3).kind = 3 := by omega
      rw [if_neg hk] at hs
      refine vc_region ?_
      refine ym ?_
      refine vc_e (e_callp [_, _] rfl rfl call50 rfl (pfail_any c 2 r3 hr3 _ (hC.k1 st.chg) (by exact st.res (i := 2) rfl) hR) (by rintro _ w' ⟨rfl, ch⟩ a ha; exact And.intro ha (Or.inr ⟨_, rfl, (atT c.e r3, 2), by rw [hs]; rfl, rfl, st.chg.trans ch.of_nil⟩)) (fun _ _ h => h.elim))
    · intro hc16
      try simp only [dn] at hc16
      have hk : (here r3).kind = 3 := by omega
      rw [if_pos hk] at hs; dsimp only at hs
      have hne := kind_ne hk (by decide)
      have hlt := tail_lt hne
      have hle3 := hsf3.length_le
      refine vc_code_skip (vq_then (vk4 0 2 3 4 (vc_seq (vc_region ?_))))
      refine ym ?_
      refine vc_e (e_call [_] rfl rfl call111 rfl (pnext_any c r3 hr3 hne _ (hC.k1 st.chg) (by exact st.res (i := 2) rfl)) ?_)
      rintro _ w ⟨rfl, hP1, cw⟩
      replace st := St.prs (b := c.pb) st 2 rfl cw (.inl (.head _)) hP1
      dsimp only [setNth] at st
      refine vy (y_fld rfl underlying118 rfl rfl isAgg2 rfl) ?_
      refine yfz 1 underlying63 sizeOf2 ?_
      refine vc_e (e_st st 0 rfl rfl rfl rfl sizeOf2 rfl rfl (by (right; assumption)) ?_)
      intro w st; dsimp only [setNth, wr] at st
      refine vc_end (vq_then (vk3 2 3 4 (vc_seq (vc_seq (vc_region ?_)))))
      refine ym ?_
      refine vc_end (vq_then (vk3 2 3 23 ?_))
      refine vc_ifs rfl ?_ ?_
      · intro hc23
        try simp only [dn] at hc23
        rw [if_pos hc23] at hs
        refine vc_region ?_
        refine yfz 1 underlying63 sizeOf2 ?_
        refine yl st 0 isAgg2 ?_
        refine vy (y_neg rfl (neg_i64 (here_wd hC.wd hr3))) ?_
        refine yfz 1 underlying63 sizeOf2 ?_
        refine vc_e (e_st st 0 rfl rfl rfl rfl sizeOf2 rfl rfl (by (right; assumption)) ?_)
        intro w st; dsimp only [setNth, wr] at st
        refine vc_end (vq_then (vk2 2 3 (vc_seq (vc_region ?_))))
        refine yla st 0 [_, _, _] isAgg63 sizeOf63 ?_
        refine vc_e (e_sts (vs := [_, _, _]) st 1 rfl rfl rfl rfl rfl sizeOf63 rfl rfl (by (right; assumption)) ?_)
        intro w st; dsimp only [setNth, wr] at st
        refine vc_end (vq_then (vk1 2 (vc_ret ?_)))
        refine vq_ret1 st (.inl rfl) results88 (by exact .cell 1 rfl rfl isAgg63 sizeOf63) ?_
        refine .inl ⟨_, rfl, ?_⟩
        exact ⟨_, _, hs, (List.tail_suffix _).trans (hsf3.trans ((List.tail_suffix _).trans hsf)), by omega, (by exact st.res (i := 2) rfl), st.chg, rfl⟩
      · intro hc23
        try simp only [dn] at hc23
        rw [if_neg (by rw [hc23]; simp)] at hs
        refine vc_code_skip (vq_then (vk2 2 3 (vc_seq (vc_region ?_))))
        refine yla st 0 [_, _, _] isAgg63 sizeOf63 ?_
        refine vc_e (e_sts (vs := [_, _, _]) st 1 rfl rfl rfl rfl rfl sizeOf63 rfl rfl (by (right; assumption)) ?_)
        intro w st; dsimp only [setNth, wr] at st
        refine vc_end (vq_then (vk1 2 (vc_ret ?_)))
        refine vq_ret1 st (.inl rfl) results88 (by exact .cell 1 rfl rfl isAgg63 sizeOf63) ?_
        refine .inl ⟨_, rfl, ?_⟩
        exact ⟨_, _, hs, (List.tail_suffix _).trans (hsf3.trans ((List.tail_suffix _).trans hsf)), by omega, (by exact st.res (i := 2) rfl), st.chg, rfl⟩

/-- a reader of one thing, as a method's value -/
def Reader (c : PCtx) (fo : FuncId) (F : List Tok → PR Dc) : Prop := ∀ (r : List Tok) (hr : r <:+ c.ts) (w : World) (hC : PCok c w) (hP : PAt c r w), RetP Tryz.prog fo [.pointer (some ⟨c.pb, 0, none⟩)] w
    (PRes c r (F r) [c.pb] w fun d v _ => v = .agg (dcL d).toArray) (PErr c (F r) [c.pb] w)
/-- a list's end, so much having come -/
def contL (e : Nat) (one : List Tok → PR Dc) (n : Nat) (acc : List Dc) (r : List Tok) : PR (List Dc) := if isT [44] r = true then (match listP e one n r.tail with
    | .error f => .error f
    | .ok (l, r') => .ok (acc ++ l, r'))
  else match want e [59] r with
    | .error f => .error f
    | .ok r' => .ok (acc, r')
theorem listP_cont (e : Nat) (one : List Tok → PR Dc) (n : Nat) (ts : List Tok) : listP e one (n + 1) ts = match one ts with
    | .error f => .error f
    | .ok (d, r) => contL e one n [d] r := by
  rw [listP]
  cases one ts with
  | error f => rfl
  | ok q => simp only [contL, List.singleton_append] <;> rfl
theorem contL_step (e : Nat) (one : List Tok → PR Dc) (n : Nat) (acc : List Dc) (r : List Tok) (h : isT [44] r = true) : contL e one (n + 1) acc r = match one r.tail with
    | .error f => .error f
    | .ok (d, r') => contL e one n (acc ++ [d]) r' := by
  rw [contL, if_pos h, listP_cont]
  cases one r.tail with
  | error f => rfl
  | ok q =>
    by_cases hc : isT [44] q.2 = true
    · simp only [contL, if_pos hc]
      cases listP e one n q.2.tail with
      | error f => rfl
      | ok q2 => simp
    · simp only [contL, if_neg hc]
      cases want e [59] q.2 with
      | error f => rfl
      | ok r2 => simp
theorem contL_end (e : Nat) (one : List Tok → PR Dc) (n : Nat) (acc : List Dc) (r : List Tok) (h : isT [44] r = false) : contL e one n acc r = match want e [59] r with
    | .error f => .error f
    | .ok r' => .ok (acc, r') := by rw [contL, if_neg (by simp [h])]

theorem plist_any (c : PCtx) (hR : c.R = 75) (fo : FuncId) (F : List Tok → PR Dc) (hcf : ∀ (az : Array Value) w, (callFunc fo az).run Tryz.prog w = .ok (.enter fo az) w) (hF : Reader c fo F) (n : Nat) (r : List Tok) (hn : r.length < n) (hr : r <:+ c.ts) (w : World) (hC : PCok c w) (hP : PAt c r w) :
    RetP Tryz.prog 87 [.pointer (some ⟨c.pb, 0, none⟩), .func (.func fo) [.pointer (some ⟨c.pb, 0, none⟩)].toArray #[]] w
    (PRes c r (listP c.e F n r) [c.pb] w fun ds v w' => ∃ oa cap Sq, v = .slice oa ds.length cap ∧ DcR 63 w' oa cap ds Sq ∧ Nw w.heap.size Sq) (PErr c (listP c.e F n r) [c.pb] w) := by
  obtain ⟨n, rfl⟩ : ∃ m, n = m + 1 := ⟨n - 1, by omega⟩
  refine retp_of [_, _] func87 rfl ntmps87 rfl ?_
  
  obtain ⟨w0, rfl⟩ : ∃ w0, w0 = w := ⟨_, rfl⟩
  have hP' := hP
  dsimp only [PAt, pcell] at hP
  have st := St.of1 [c.pb] hP
  have h20 := hC.len
  have hl := suf_len hr
  have hs := listP_cont c.e F n r
  refine vc_seq (vc_region ?_)
  refine ya ?_
  refine vc_end (vq_then (vk2 0 1 (vc_seq (vc_region ?_))))
  refine ym ?_
  refine vc_e (e_callvp [] rfl rfl rfl hcf rfl (hF r hr _ (hC.k1 st.chg) (by exact st.res (i := 0) rfl)) (by rintro _ w' ⟨f, hf, rfl, ch⟩ a ha; exact And.intro ha (Or.inr ⟨_, rfl, f, by rw [hs, hf], rfl, st.chg.trans ch⟩)) ?_)
  rintro _ w ⟨d0, r1, hx, hsf, hln, hP1, cw, rfl⟩
  replace st := St.prs (b := c.pb) st 0 rfl cw (.inl (.head _)) hP1
  dsimp only [setNth] at st
  rw [hx] at hs; dsimp only at hs
  have hr1 := hsf.trans hr
  refine vc_e (e_bs1 (l := [_, _, _]) st rfl rfl rfl rfl underlying23 sizeOf63 rfl rfl rfl zeroValue63 ?_)
  intro b8 w hb8 st
  replace st := st.toOwn (len := 1) (size := 3) hb8 rfl (by unfold maxLen; omega)
  refine ya ?_
  refine vc_end (vq_then (vk3 0 1 5 (vc_seq (vc_block ?_))))
  refine vc_loop (w0 := w0) (M := [c.pb]) (fun (y : Nat × List Dc × List Tok × Option Addr × Nat) => [(0, .pointer (some ⟨c.pb, 0, none⟩)), (1, .func (.func fo) [.pointer (some ⟨c.pb, 0, none⟩)].toArray #[]), (5, .slice y.2.2.2.1 y.2.1.length y.2.2.2.2)]) (fun y => [.own (.slice y.2.2.2.1 y.2.1.length y.2.2.2.2) 63 3 y.2.1.length (y.2.1.flatMap dcL), .blk c.pb (.cells (pcell c y.2.2.1).toArray c.T (0, 0))]) (fun y _ => y.2.2.1 <:+ r ∧ y.2.2.1.length + y.2.1.length ≤ r.length ∧ y.2.2.1.length < y.1 + 1 ∧ listP c.e F (n + 1) r = contL c.e F y.1 y.2.1 y.2.2.1) (fun y => y.2.2.1.length) (n, [d0], r1, _, _) ⟨rfl, rfl, rfl, trivial⟩ (by simpa [dcL] using st) ⟨hsf, by simp; omega, by dsimp only; omega, hs⟩ ?_
  clear st hs
  rintro ⟨m, acc, r2, oq, cq⟩ w ⟨hsf2, hl2, hm2, hs⟩ st
  dsimp only at hsf2 hl2 hm2 hs st
  have hr2 := hsf2.trans hr
  refine vc_seq (vc_seq (vc_region ?_))
  refine ym ?_
  refine vc_e (e_call [_, _] rfl rfl call86 rfl (ptake_any c [44] r2 hr2 _ (hC.k1 st.chg) (by exact st.res (i := 1) rfl)) ?_)
  rintro _ w ⟨rfl, hP1, cw⟩
  replace st := St.prs (b := c.pb) st 1 rfl cw (.inl (.head _)) hP1
  dsimp only [setNth] at st
  refine vc_end (vq_then (vk4 0 1 5 10 ?_))
  refine vc_ifs rfl ?_ ?_
  · intro hc10
    try simp only [dn] at hc10
    simp only [hc10, if_true] at st
    have ht := tail_lt (isT_ne hc10)
    have hr3 := suf_tail hr2
    obtain ⟨m, rfl⟩ : ∃ k, m = k + 1 := ⟨m - 1, by omega⟩
    rw [contL_step _ _ _ _ _ hc10] at hs
    refine vc_code_skip (vq_then (vk3 0 1 5 (vc_block (vc_region ?_))))
    iterate 2 refine ym ?_
    refine vc_e (e_callvp [] rfl rfl rfl hcf rfl (hF r2.tail hr3 _ (hC.k1 st.chg) (by exact st.res (i := 1) rfl)) (by rintro _ w' ⟨f, hf, rfl, ch⟩ a ha; exact And.intro ha (Or.inr ⟨_, rfl, f, by rw [hs, hf], rfl, st.chg.trans ch⟩)) ?_)
    rintro _ w ⟨d1, r4, hx4, hsf4, hln4, hP1, cw, rfl⟩
    replace st := St.prs (b := c.pb) st 1 rfl cw (.inl (.head _)) hP1
    dsimp only [setNth] at st
    rw [hx4] at hs; dsimp only at hs
    have hr4 := hsf4.trans hr3
    have h40 := hl2
    have h41 := hr.length_le
    refine vc_e (e_bs1 (l := [_, _, _]) st rfl rfl rfl rfl underlying23 sizeOf63 rfl rfl rfl zeroValue63 ?_)
    intro b14 w hb14 st
    refine vc_e (e_app (bytes := 32) st 1 0 rfl rfl rfl rfl rfl rfl underlying23 Tryz.info63 rfl rfl rfl rfl rfl (by simp) rfl rfl (by unfold maxLen; omega) (by omega) ?_)
    intro oaQ capQ w st; dsimp only [setNth] at st
    replace st := st.pick [1, 2] rfl (by decide)
    refine ya ?_
    refine vc_end (vq_block ?_)
    refine vq_again (m, acc ++ [d1], r4, oaQ, capQ)  (by refine ⟨rfl, rfl, ?_, trivial⟩; simp [find, put]) (by simpa [dcL] using st) ?_ ?_
    · exact ⟨(hsf4.trans (List.tail_suffix _)).trans hsf2, by simp; omega, by dsimp only; omega, hs⟩
    · dsimp only; omega
  · intro hc10
    try simp only [dn] at hc10
    simp only [hc10, Bool.false_eq_true, if_false] at st
    rw [contL_end _ _ _ _ _ hc10] at hs
    refine vc_exit (vq_then_exit (vq_then_exit (vq_block_exit (vq_then (vk2 0 5 (vc_seq (vc_region ?_)))))))
    refine ym ?_
    refine vc_e (e_bs1 (l := [_]) st rfl rfl rfl rfl underlying50 sizeOf9 rfl rfl rfl zeroValue9 ?_)
    intro b17 w hb17 st
    refine vc_e (e_callp [_, _] rfl rfl call145 rfl (pwant_any c [[59]] (by simp) _ _ _ _ rfl r2 hr2 _ (hC.k1 st.chg) (by exact st.res (i := 2) rfl) hR (st.res (i := 0) rfl) (by exact st.bne 0 2 (by decide) rfl rfl)) (by rintro _ w' ⟨f, hf, rfl, ch⟩ a ha; rw [wantL_one] at hf; exact And.intro ha (Or.inr ⟨_, rfl, f, by rw [hs, hf], rfl, st.chg.trans ch⟩)) ?_)
    rintro _ w ⟨r5, hx, hsfr5, hlnr5, hP1, cw⟩
    rw [wantL_one] at hx
    rw [hx] at hs; dsimp only at hs
    replace st := St.prs (b := c.pb) st 2 rfl cw (.inl (.head _)) hP1
    dsimp only [setNth] at st
    have hr5 := hsfr5.trans hr2
    refine vc_end (vq_then (vk1 5 (vc_seq (vc_region ?_))))
    refine ym ?_
    refine ya ?_
    refine vc_end (vq_then (vk1 4 (vc_ret ?_)))
    refine vq_ret1 st (.inl rfl) results87 (.tmp rfl) ?_
    refine .inl ⟨_, rfl, ?_⟩
    have hown := st.ownNw (i := 1) rfl
    exact ⟨_, _, hs, hsfr5.trans hsf2, by simp at hlnr5; omega, (by exact st.res (i := 2) rfl), st.chg, oq, cq, obk oq, rfl, ⟨hown.1, rfl⟩, hown.2⟩

end Go.Proofs.YtnmhlpnapgojjaaGreatDoor.Pq


/- A parser's trees: operators that wait; new rows of one and of two. -/
namespace Sx
open Go Go.RowKit LexS ParS

/-- the cells of an operator that waits, with its first side -/
abbrev pdC (p : Pend) (oa : Option Addr) (cap : Nat) : List Value := [.int .u8 (p.1 : Int), .int .i64 (p.2.1 : Int), .int .u8 p.2.2.k, .int .u8 p.2.2.op, .int .i64 p.2.2.wd, str p.2.2.nm, .slice oa p.2.2.kids.length cap, .int .i64 p.2.2.a]
/-- operators that wait: their cells, the top one's last; the blocks of their first sides -/
def PdSs (tE : Nat) (w : World) : List Pend → List Value → List Nat → Prop
  | [], xs, S => xs = [] ∧ S = []
  | p :: W, xs, S => ∃ oa cap S1 xr Sr, xs = xr ++ pdC p oa cap ∧ S = Sr ++ S1 ∧ ExR tE w oa cap p.2.2.kids S1 ∧ PdSs tE w W xr Sr
section
variable {tE : Nat} {w w' : World}
theorem PdSs.len : ∀ {W : List Pend} {xs : List Value} {S : List Nat}, PdSs tE w W xs S → xs.length = W.length * 8
  | [], xs, S, h => by rw [h.1]; rfl
  | p :: W, xs, S, ⟨oa, cap, S1, xr, Sr, e1, e2, h1, h2⟩ => by
    have := PdSs.len h2
    rw [e1]; simp; omega
theorem PdSs.lt : ∀ {W : List Pend} {xs : List Value} {S : List Nat}, PdSs tE w W xs S → ∀ b ∈ S, b < w.heap.size
  | [], xs, S, h, b, hb => by rw [h.2] at hb; simp at hb
  | p :: W, xs, S, ⟨oa, cap, S1, xr, Sr, e1, e2, h1, h2⟩, b, hb => by
    rw [e2] at hb
    rcases List.mem_append.1 hb with h | h
    · exact PdSs.lt h2 b h
    · exact h1.lt b h
theorem PdSs.kept : ∀ {W : List Pend} {xs : List Value} {S : List Nat}, PdSs tE w W xs S → (∀ b ∈ S, w'.heap[b]? = w.heap[b]?) → PdSs tE w' W xs S
  | [], xs, S, h, _ => h
  | p :: W, xs, S, ⟨oa, cap, S1, xr, Sr, e1, e2, h1, h2⟩, hk => by
    subst e2
    exact ⟨oa, cap, S1, xr, Sr, e1, rfl, h1.kept (fun b hb => hk b (List.mem_append.2 (.inr hb))), PdSs.kept h2 (fun b hb => hk b (List.mem_append.2 (.inl hb)))⟩
theorem holds_pd {base : Nat} {W : List Pend} {xs : List Value} {S : List Nat} (h : PdSs tE w W xs S) : (Res.tree S fun w => PdSs tE w W xs S).holds base w := holds_of h h.lt (fun a b h hk => h.kept hk)

theorem loc_ex {oa : Option Addr} {cap : Nat} {es : List Ex} {S : List Nat} : Loc S fun w => ExR tE w oa cap es S := loc_of fun a b h hk => h.kept hk
theorem loc_pd {W : List Pend} {xs : List Value} {S : List Nat} : Loc S fun w => PdSs tE w W xs S := loc_of fun a b h hk => h.kept hk
/-- a new block as a row -/
theorem own_new {b E sz len : Nat} {l : List Value} (h : w.heap[b]? = some (.cells l.toArray E (0, 0))) (hlen : l.length = len * sz) (hm : len ≤ maxLen) : w.ownsRow 0 E sz (.slice (some ⟨b, 0, none⟩) len len) len l := by
  refine ⟨hlen, .inr ⟨b, len, l.toArray, rfl, Nat.zero_le _, h, Nat.le_refl _, hm, by simpa using hlen, ?_⟩⟩
  rw [← hlen]
  simp
theorem ex_one {b : Nat} {x : Ex} {ox : Option Addr} {cx : Nat} {S : List Nat} (h : w.heap[b]? = some (.cells (exC x ox cx).toArray tE (0, 0))) (hx : ExR tE w ox cx x.kids S) : ExR tE w (some ⟨b, 0, none⟩) 1 [x] (b :: S) :=
  ⟨exC x ox cx, S, own_new h rfl (by simp [maxLen]), rfl, ExSs_one.2 (ExS_iff.2 ⟨ox, cx, rfl, hx⟩)⟩
theorem ex_two {b : Nat} {x y : Ex} {ox oy : Option Addr} {cx cy : Nat} {S T : List Nat} (h : w.heap[b]? = some (.cells (exC x ox cx ++ exC y oy cy).toArray tE (0, 0))) (hx : ExR tE w ox cx x.kids S) (hy : ExR tE w oy cy y.kids T) :
    ExR tE w (some ⟨b, 0, none⟩) 2 [x, y] (b :: (S ++ T)) :=
  ⟨exC x ox cx ++ exC y oy cy, S ++ T, own_new h rfl (by simp [maxLen]), rfl, (ExSs_app (a := [x]) (b := [y])).2 ⟨_, _, S, T, rfl, rfl, ExSs_one.2 (ExS_iff.2 ⟨ox, cx, rfl, hx⟩), ExSs_one.2 (ExS_iff.2 ⟨oy, cy, rfl, hy⟩)⟩⟩
end
section
variable {w w' w0 : World} {M : List Nat} {hs : List Res}
/-- an owned row, shortened -/
theorem own_take {base E size n m cap : Nat} {oa : Option Addr} {xs ys : List Value} (h : w.ownsRow base E size (.slice oa n cap) n (xs ++ ys)) (hm : m ≤ n) (hx : xs.length = m * size) : w.ownsRow base E size (.slice oa m cap) m xs := by
  rcases h with ⟨hl, h⟩
  refine ⟨hx, ?_⟩
  rcases h with ⟨e, h0⟩ | ⟨g, c, cur, e, hb, hg, hnc, hcm, hcs, htake⟩
  · simp only [Value.slice.injEq] at e
    obtain ⟨rfl, e2, rfl⟩ := e
    obtain rfl : m = 0 := by omega
    exact .inl ⟨rfl, rfl⟩
  · simp only [Value.slice.injEq] at e
    obtain ⟨rfl, -, rfl⟩ := e
    refine .inr ⟨g, cap, cur, rfl, hb, hg, by omega, hcm, hcs, ?_⟩
    have h1 : cur.toList.take (n * size) = xs ++ ys := by simpa using htake
    have h2 : m * size ≤ n * size := Nat.mul_le_mul_right _ hm
    have h3 : cur.toList.take (m * size) = xs := by
      have : cur.toList.take (m * size) = (cur.toList.take (n * size)).take (m * size) := by rw [List.take_take, Nat.min_eq_left h2]
      rw [this, h1, ← hx, List.take_left]
    simpa using h3
theorem own_cap {base E size n cap : Nat} {oa : Option Addr} {xs : List Value} (h : w.ownsRow base E size (.slice oa n cap) n xs) : n ≤ cap := by
  rcases h.2 with ⟨e, h0⟩ | ⟨g, c, cur, e, hb, hg, hnc, _⟩
  · omega
  · simp only [Value.slice.injEq] at e; omega
theorem own_some {base E size n cap : Nat} {oa : Option Addr} {xs : List Value} (h : w.ownsRow base E size (.slice oa n cap) n xs) (hn : 0 < n) : ∃ g, oa = some ⟨g, 0, none⟩ := by
  obtain ⟨g, c, e, -⟩ := own_form h hn
  simp only [Value.slice.injEq] at e
  exact ⟨g, e.1⟩
theorem app_at {α : Type} {xr l : List α} {k j : Nat} (h : xr.length = k) : (xr ++ l)[k + j]? = l[j]? := by rw [List.getElem?_append_right (by omega)]; congr 1; omega
theorem St.shrink {E size n m cap : Nat} {oa : Option Addr} {xs ys : List Value} (st : St w0 M (.own (.slice oa n cap) E size n (xs ++ ys) :: hs) w) (hm : m ≤ n) (hx : xs.length = m * size) : St w0 M (.own (.slice oa m cap) E size m xs :: hs) w :=
  st.turn0 (fun k hk => by rw [Res.at?, obk_own] at hk ⊢; exact hk) (own_take (st.res (i := 0) rfl) hm hx)
end

/-! ### what is parsed, so much having come -/
def contE (u : List Tok → PR Ex) (n : Nat) (W : List Pend) (x : Ex) (r : List Tok) : PR Ex := match flatE u n r with
  | .error f => .error f
  | .ok (l, r') => .ok (shunt l W x, r')
theorem exprW_cont (u : List Tok → PR Ex) (r : List Tok) : exprW u r = match u r with
    | .error f => .error f
    | .ok (x, r1) => contE u (r1.length + 1) [] x r1 := by
  unfold exprW contE
  cases u r with
  | error f => rfl
  | ok p => rfl
theorem redu_all : ∀ (lv lv' : Int) (W : List Pend) (x : Ex), redu true lv W x = redu true lv' W x
  | lv, lv', [], x => rfl
  | lv, lv', (op, a, l) :: W, x => by simp only [redu, true_or, if_true]; exact redu_all lv lv' W _
theorem contE_stop {u : List Tok → PR Ex} {n : Nat} {W : List Pend} {x z : Ex} {r : List Tok} {lv : Int} (h : opT (here r) = none) (hz : redu true lv W x = ([], z)) : contE u (n + 1) W x r = .ok (z, r) := by
  simp only [contE, flatE, h, shunt]
  rw [redu_all 0 lv, hz]
theorem contE_step {u : List Tok → PR Ex} {n : Nat} {W W' : List Pend} {x z : Ex} {r : List Tok} {op : Nat} (h : opT (here r) = some op) (hz : redu false (lvlO (op : Int)) W x = (W', z)) : contE u (n + 1) W x r = match u r.tail with
    | .error f => .error f
    | .ok (y, r') => contE u n ((op, (here r).at_, z) :: W') y r' := by
  simp only [contE, flatE, h]
  cases hu : u r.tail with
  | error f => rfl
  | ok p =>
    simp only
    cases hf : flatE u n p.2 with
    | error f => rfl
    | ok q => simp only [shunt]; rw [hz]
structure ESt where
  W : List Pend
  x : Ex
  r : List Tok
  n : Nat
  ow : Option Addr
  cw : Nat
  xs : List Value
  SW : List Nat
  ox : Option Addr
  cx : Nat
  Sx : List Nat
end Sx

