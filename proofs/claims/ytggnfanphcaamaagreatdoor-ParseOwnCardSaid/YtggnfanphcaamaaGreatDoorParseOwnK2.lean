/- A part of the proof: contracts of functions and plain laws; each theorem says its own conditions. -/
import Derived.Recover
import Derived.Lib.Bytealg
import Derived.Test.YtggnfanphcaamaaGreatDoorRows
import Derived.Test.YtggnfanphcaamaaGreatDoorParseOwnK1
import Derived.Test.YtggnfanphcaamaaGreatDoorParseOwnK0
set_option linter.unusedVariables false
set_option linter.unusedSimpArgs false
/- Calls that return or panic; what a caller hands on; a function that defers; a deferred closure that recovers. -/
namespace Sx
open Go Go.RowKit

/-- the panic of one value, not recovered -/
abbrev pch (v : Value) : List PanicEntry := [{ v := v, recovered := false }]
/-- the call returns, and 'Φ' holds; or it panics with a value, and 'Ψ' holds of it -/
def RetP (P : Program) (f : FuncId) (vals : List Value) (w : World) (Φ Ψ : Value → World → Prop) : Prop :=
  Calls P f vals.toArray w fun e w' => (∃ v, e = .returned v ∧ Φ v w') ∨ ∃ v, e = .panicked (pch v) ∧ Ψ v w'
section
variable {P : Program} {n : Fr} {L : List Oper} {Q : Exit → Act → World → Prop} {kn : Kn} {w w0 : World} {M : List Nat} {hs : List Res} {rest : List Oper}
variable {d ty : Nat} {pos : String} {aft : Array Edge} {g : Option (Nat × Bool)}
variable {N : Act → World → Prop}

/-- what is asked where a callee's panic goes on -/
abbrev PanQ (n : Fr) (Q : Exit → Act → World → Prop) (v : Value) (w : World) : Prop := ∀ a : Act, a.defers = n.2 → Q (.panic (pch v)) a w

theorem e_callp' {o : Oper} {f : FuncId} {vals : List Value} {Φ Ψ : Value → World → Prop} (hw : gd L kn o.guard = some true) (hd : okDst n o.dst = true)
    (hrun : ∀ a, K n kn a → (execOp a.eval o).run P w = .ok (.enter f vals.toArray) w)
    (c : RetP P f vals w Φ Ψ) (pan : ∀ v w', Ψ v w' → PanQ n Q v w') (next : ∀ v w', Φ v w' → vN n N (put o.dst v kn) w') : vS P n L Q o N kn w := by
  intro a ha
  rw [if_pos (ha.gd hw)]
  refine .inl ?_
  unfold Oper.wp
  rw [hrun a ha]
  refine Calls.mono c ?_
  rintro e w' (⟨v, rfl, hv⟩ | ⟨v, rfl, hv⟩)
  · exact next v w' hv _ (ha.put hd v)
  · exact pan v w' hv a ha.defers

theorem e_callp {f : FuncId} {args : Array Operand} {tys : Array TypeId} (vals : List Value) {Φ Ψ : Value → World → Prop} (hw : gd L kn g = some true) (hd : okDst n (some d) = true)
    (hcall : ∀ (az : Array Value) w, (callFunc f az).run P w = .ok (.enter f az) w)
    (hv : args.toList.map (evO kn) = vals.map some)
    (c : RetP P f vals w Φ Ψ) (pan : ∀ v w', Ψ v w' → PanQ n Q v w') (next : ∀ v w', Φ v w' → vN n N ((d, v) :: kn) w') :
    vS P n L Q ⟨some d, .call ⟨.value (.func f), args, tys⟩, ty, pos, aft, g⟩ N kn w :=
  e_callp' (f := f) (vals := vals) hw hd (fun a ha => by
    have hargs := evs_map ha hv
    simp only [execOp, resolve, hargs, Act.eval]
    simp [Deferred.ofValue, invoke, hcall]) c pan next

theorem e_callvp {f : FuncId} {x : Operand} {first captured : List Value} {args : Array Operand} {tys : Array TypeId} (vals : List Value) {Φ Ψ : Value → World → Prop} (hw : gd L kn g = some true) (hd : okDst n (some d) = true)
    (hx : evO kn x = some (.func (.func f) first.toArray captured.toArray))
    (hcall : ∀ (az : Array Value) w, (callFunc f az).run P w = .ok (.enter f az) w)
    (hv : args.toList.map (evO kn) = vals.map some)
    (c : RetP P f (first ++ vals ++ captured) w Φ Ψ) (pan : ∀ v w', Ψ v w' → PanQ n Q v w') (next : ∀ v w', Φ v w' → vN n N ((d, v) :: kn) w') :
    vS P n L Q ⟨some d, .call ⟨.value x, args, tys⟩, ty, pos, aft, g⟩ N kn w :=
  e_callp' (f := f) (vals := first ++ vals ++ captured) hw hd (fun a ha => by
    have hargs := evs_map ha hv
    simp only [execOp, resolve, hargs, ha.ev hx]
    simp [Deferred.ofValue, invoke, hcall]) c pan next

/-- the function's own panic -/
theorem e_panic {o : Oper} {v : Value} (hw : gd L kn o.guard = some true) (hrun : ∀ a, K n kn a → (execOp a.eval o).run P w = .halt (.panic v) w) (pan : PanQ n Q v w) : vS P n L Q o N kn w := by
  intro a ha
  rw [if_pos (ha.gd hw)]
  refine .inl ?_
  unfold Oper.wp
  rw [hrun a ha]
  exact pan a ha.defers
theorem e_panicI {x : Operand} {T : Nat} {v : Value} (hw : gd L kn g = some true) (hx : evO kn x = some (.iface T v)) (pan : PanQ n Q (.iface T v) w) {dst : Option Nat} : vS P n L Q ⟨dst, .panic x, ty, pos, aft, g⟩ N kn w :=
  e_panic hw (fun a ha => by simp only [execOp, ha.ev hx]; simp [Instr.panic, goPanic, Sem.run]; try rfl) pan

theorem retp_of {m : Nat} {f : FuncId} {fn : Func} {c : Code} (vals : List Value) {Φ Ψ : Value → World → Prop} (hf : P.funcs[f]? = some fn) (hb : fn.body = some c) (hn : fn.ntmps = m) (hle : Nat.ble vals.length m = true)
    (h : vcC P (m, []) c (bodyPost P fn fun e w' => (∃ v, e = .returned v ∧ Φ v w') ∨ ∃ v, e = .panicked (pch v) ∧ Ψ v w') (enumKn 0 vals) w) : RetP P f vals w Φ Ψ := vc_enter hf hb hn hle h

theorem y_mki {T : Nat} {x : Operand} {v : Value} {fs : Array Field} (hx : evO kn x = some v) (ht : P.underlying T = some (.struct fs)) : Y P n kn w ⟨some d, .makeInterface T x, ty, pos, aft, g⟩ (.iface T v) := fun a ha => by
  simp only [execOp, ha.ev hx]
  simp [Instr.makeInterface, run_underlying ht]
/-! ### functions that defer -/
/-- 'defer': the call is put ahead of those that wait -/
theorem e_defer {o : Oper} {D : Deferred} {m : Nat} {ds : List Deferred} (hn : n = (m, ds)) (hw : gd L kn o.guard = some true) (hd : o.dst = none)
    (hrun : ∀ a, K n kn a → (execOp a.eval o).run P w = .ok (.defer D) w) (next : vN (m, D :: ds) N kn w) : vS P n L Q o N kn w := by
  subst hn
  intro a ha
  rw [if_pos (ha.gd hw)]
  refine .inl ?_
  unfold Oper.wp
  rw [hrun a ha]
  have h := next { a with defers := D :: a.defers } ⟨by simp [ha.defers], ha.size, fun t v ht => ha.get t v ht⟩
  simpa [Oper.upon, Act.put, hd] using h

theorem vcd_enter {m : Nat} {f : FuncId} {fn : Func} {c : Code} {vals : List Value} {R : Ending → World → Prop} (hf : P.funcs[f]? = some fn) (hb : fn.body = some c) (hn : fn.ntmps = m) (hle : Nat.ble vals.length m = true)
    (h : vcC P (m, []) c (bodyPostD P fn R) (enumKn 0 vals) w) : Calls P f vals.toArray w R := by
  refine calls_of_wp_defers hf hb (h _ ?_)
  have hle' : vals.length ≤ m := by simpa [Nat.ble_eq] using hle
  refine ⟨rfl, ?_, ?_⟩
  · simp only [Array.size_append, List.size_toArray, Array.size_replicate, hn]; omega
  · intro t v ht
    obtain ⟨h1, h2⟩ := find_enumKn vals 0 t v ht
    have hlt : t < vals.length := by
      simp only [Nat.sub_zero] at h2
      exact (List.getElem?_eq_some_iff.1 h2).1
    simp only [Nat.sub_zero] at h2
    rw [Array.getElem?_append_left (by simpa using hlt)]
    simpa using h2

/-- a deferred call that leaves the panic as it is and returns, and 'Φ' holds of the memory behind it -/
def DefIdle (P : Program) (f : FuncId) (args : Array Value) (w : World) (Φ : World → Prop) : Prop :=
  CallsD P f args .returning w fun e u' w' => (∃ v, e = .returned v) ∧ u' = .returning ∧ Φ w'
/-- a deferred call that recovers the panic -/
def DefCatch (P : Program) (f : FuncId) (args : Array Value) (v : Value) (w : World) (Φ : World → Prop) : Prop :=
  CallsD P f args (.panicking (pch v)) w fun e u' w' => (∃ v, e = .returned v) ∧ u' = .panicking [{ v := v, recovered := true }] ∧ Φ w'

/-- leaving with one deferred closure, without a panic -/
theorem vqd_ret {m : Nat} {fn : Func} {R : Ending → World → Prop} {e : Exit} {f : FuncId} {cap : List Value} {Φ : World → Prop} (he : e = .ret ∨ e = .normal)
    (hcall : ∀ (az : Array Value) w, (callFunc f az).run P w = .ok (.enter f az) w)
    (h : DefIdle P f cap.toArray w Φ) (hres : ∀ w', Φ w' → ∃ v, (∀ a, K (m, [⟨.fn (.func f) cap.toArray, #[]⟩]) kn a → (results fn a.tmps).run P w' = .ok v w') ∧ R (.returned v) w') :
    vcQ (m, [⟨.fn (.func f) cap.toArray, #[]⟩]) (bodyPostD P fn R) e kn w := by
  intro a ha
  have key : Leaves P fn a.tmps R a.defers .returning w := by
    rw [ha.defers]
    refine leaves_cons (f := f) (args := cap.toArray) (by simp) (by simp [invoke, hcall]) (h.mono ?_)
    rintro e u' w' ⟨⟨v, rfl⟩, rfl, hΦ⟩
    obtain ⟨r, h1, h2⟩ := hres w' hΦ
    exact ⟨r, h1 a ha, h2⟩
  rcases he with rfl | rfl <;> exact key
/-! ### a map whose entries are known -/
abbrev entF (kvs : List (Wd × Value)) : List MapEntry := kvs.zipIdx.map fun p => { key := str p.1.1, val := p.1.2, born := p.2 }
abbrev mapF (kvs : List (Wd × Value)) : Obj := .map (entF kvs).toArray kvs.length
def getF : List (Wd × Value) → Wd → Option Value
  | [], _ => none
  | (k, v) :: r, s => if s = k then some v else getF r s
theorem findNow_F (s : Wd) : ∀ (kvs : List (Wd × Value)) (j i : Nat), ∃ m, Instr.findNow .string (str s) ((kvs.zipIdx j).map fun p => ({ key := str p.1.1, val := p.1.2, born := p.2 } : MapEntry)) i = some ((getF kvs s).map fun v => (m, v))
  | [], j, i => ⟨0, rfl⟩
  | (k, v) :: r, j, i => by
    by_cases hk : s = k
    · subst hk
      exact ⟨i, by simp [Instr.findNow, Instr.sameNow, bytes_beq, getF]⟩
    · obtain ⟨m, hm⟩ := findNow_F s r (j + 1) (i + 1)
      refine ⟨m, ?_⟩
      simp only [List.zipIdx_cons, List.map_cons, Instr.findNow, Instr.sameNow, bytes_beq, hk, decide_false, getF, if_false]
      exact hm
theorem e_mkF (st : St w0 M hs w) {T : Nat} (hw : gd L kn g = some true) (hd : okDst n (some d) = true)
    (next : ∀ b w', w0.heap.size ≤ b → St w0 M (.blk b (mapF []) :: hs) w' → vN n N ((d, .map (some b)) :: kn) w') : vS P n L Q (⟨some d, .makeMap T none, ty, pos, aft, g⟩) N kn w :=
  e_run (v := .map (some w.heap.size)) (w' := w.alloc (.map #[] 0)) hw hd (fun a ha => by
    simp only [execOp, Option.map_none]; rfl) (next _ _ st.chg.size (st.pushR (Chg.alloc w _) (heap_alloc w _) (by simp [Res.at?])))
theorem e_inF (st : St w0 M hs w) (i : Nat) {T k e b : Nat} {x y z : Operand} {s : Wd} {v : Value} {kvs : List (Wd × Value)} (hw : gd L kn g = some true) (hx : evO kn x = some (.map (some b))) (hy : evO kn y = some (str s)) (hv : evO kn z = some v)
    (hi : nth hs i = some (.blk b (mapF kvs))) (hm : b ∈ M ∨ w0.heap.size ≤ b) (ht : P.underlying T = some (.map k e)) (hk : P.underlying k = some .string) (hno : getF kvs s = none)
    (next : ∀ w', St w0 M (setNth hs i (.blk b (mapF (kvs ++ [(s, v)])))) w' → vN n N kn w') : vS P n L Q (⟨none, .insert T x y z, ty, pos, aft, g⟩) N kn w := by
  have hb : w.heap[b]? = some (mapF kvs) := st.res hi
  obtain ⟨m, hf⟩ := findNow_F s kvs 0 0
  rw [hno] at hf
  simp only [Option.map_none] at hf
  obtain ⟨q1, q2, q3⟩ := setObj_chg (P := P) (o' := mapF (kvs ++ [(s, v)])) hb (by simp)
  have hent : (entF kvs).toArray.push { key := str s, val := v, born := kvs.length } = (entF (kvs ++ [(s, v)])).toArray := by
    simp [entF, List.zipIdx_append]
  refine e_do (w' := ChangeMaps.setBlock w b (mapF (kvs ++ [(s, v)]))) hw rfl (fun a ha => ?_) (next _ (st.turn hi rfl rfl q2 hm q3))
  have hfk := findKey_str (P := P) hk hf w
  have hrun : (Instr.mapUpdate T (.map (some b)) (str s) v).run P w = .ok () (ChangeMaps.setBlock w b (mapF (kvs ++ [(s, v)]))) := by
    have e1 : (kvs ++ [(s, v)]).length = kvs.length + 1 := by simp
    simp only [mapF, ← hent, e1] at q1 ⊢
    simp [Instr.mapUpdate, getObj, Sem.run_bind, underlying, Sem.run, ht, hb, Result.andThen, checkKey_str hk, hfk]
    simpa using q1
  simp only [execOp, ha.ev hx, ha.ev hy, ha.ev hv, Sem.run_bind, hrun, Result.andThen_ok]; rfl
/-- v, ok := m[s] -/
theorem e_lkF (st : St w0 M hs w) (i : Nat) {T k e b : Nat} {x y : Operand} {s : Wd} {z : Value} {kvs : List (Wd × Value)} (hw : gd L kn g = some true) (hd : okDst n (some d) = true) (hx : evO kn x = some (.map (some b))) (hy : evO kn y = some (str s))
    (hi : nth hs i = some (.blk b (mapF kvs))) (ht : P.underlying T = some (.map k e)) (hk : P.underlying k = some .string) (hz : ∀ w, (zeroValue e).run P w = .ok z w)
    (next : vN n N ((d, .tuple [(getF kvs s).getD z, .bool (getF kvs s).isSome].toArray) :: kn) w) : vS P n L Q (⟨some d, .lookup T x y true, ty, pos, aft, g⟩) N kn w := by
  have hb : w.heap[b]? = some (mapF kvs) := st.res hi
  obtain ⟨m, hf⟩ := findNow_F s kvs 0 0
  refine e_run (v := .tuple [(getF kvs s).getD z, .bool (getF kvs s).isSome].toArray) (w' := w) hw hd (fun a ha => ?_) next
  have hfk := findKey_str (P := P) hk hf w
  have hrun : (Instr.lookup T (.map (some b)) (str s) true).run P w = .ok (.tuple [(getF kvs s).getD z, .bool (getF kvs s).isSome].toArray) w := by
    cases hg : getF kvs s with
    | none =>
      rw [hg] at hfk
      simp [Instr.lookup, getObj, Sem.run_bind, underlying, Sem.run, ht, hb, Result.andThen, checkKey_str hk, hfk, hz]
    | some u =>
      rw [hg] at hfk
      simp [Instr.lookup, getObj, Sem.run_bind, underlying, Sem.run, ht, hb, Result.andThen, checkKey_str hk, hfk]
  simp only [execOp, ha.ev hx, ha.ev hy, Sem.run_bind, hrun, Result.andThen_ok]; rfl
end
end Sx


/- What the lexer computes, in plain words: no program in sight. -/
namespace LexS

def isLetter (c : UInt8) : Bool := decide (97 ≤ c.toNat ∧ c.toNat ≤ 122 ∨ 65 ≤ c.toNat ∧ c.toNat ≤ 90 ∨ c.toNat = 95)
def isDigit (c : UInt8) : Bool := decide (48 ≤ c.toNat ∧ c.toNat ≤ 57)
def isBlank (c : UInt8) : Bool := decide (c.toNat = 32 ∨ c.toNat = 9 ∨ c.toNat = 10 ∨ c.toNat = 13)
def isIdent (c : UInt8) : Bool := isLetter c || isDigit c
def wShared : List UInt8 := [115, 104, 97, 114, 101, 100]
def wLock : List UInt8 := [108, 111, 99, 107]
def wThread : List UInt8 := [116, 104, 114, 101, 97, 100]
def wLocal : List UInt8 := [108, 111, 99, 97, 108]
def wIf : List UInt8 := [105, 102]
def wElse : List UInt8 := [101, 108, 115, 101]
def wWhile : List UInt8 := [119, 104, 105, 108, 101]
def wPrint : List UInt8 := [112, 114, 105, 110, 116]
def wSkip : List UInt8 := [115, 107, 105, 112]
def wSwap : List UInt8 := [115, 119, 97, 112]
def isWord (l : List UInt8) : Bool := decide (l = wShared ∨ l = wLock ∨ l = wThread ∨ l = wLocal ∨ l = wIf ∨ l = wElse ∨ l = wWhile ∨ l = wPrint ∨ l = wSkip ∨ l = wSwap)
/-- the signs of two bytes -/
def isSign2 (l : List UInt8) : Bool := decide (l = [61, 61] ∨ l = [33, 61] ∨ l = [60, 61] ∨ l = [62, 61] ∨ l = [60, 60] ∨ l = [62, 62])
def signs1 : List UInt8 := [40, 41, 123, 125, 44, 59, 61, 43, 45, 42, 47, 37, 38, 124, 94, 33, 60, 62]
/-- the signs of one byte -/
def isSign1 (l : List UInt8) : Bool := match l with | [c] => signs1.contains c | _ => false
def isSign (l : List UInt8) : Bool := isSign2 l || isSign1 l
def isName (l : List UInt8) : Bool := match l with
  | [] => false
  | c :: _ => decide (l.length ≤ 32) && !isDigit c && !isWord l && l.all isIdent

/-- how many bytes stand ahead of the first LF (or the end) -/
def toLf : List UInt8 → Nat
  | [] => 0
  | c :: r => if c = 10 then 0 else toLf r + 1

def isRem (l : List UInt8) : Bool := match l with | a :: b :: _ => decide (a = 47 ∧ b = 47) | _ => false

/-- how many bytes of blanks and remarks stand ahead -/
def skipF : Nat → List UInt8 → Nat
  | 0, _ => 0
  | _ + 1, [] => 0
  | k + 1, c :: r => if isBlank c then skipF k r + 1 else if isRem (c :: r) then toLf (c :: r) + skipF k ((c :: r).drop (toLf (c :: r))) else 0
def skip (l : List UInt8) : Nat := skipF (l.length + 1) l

theorem toLf_le (l : List UInt8) : toLf l ≤ l.length := by
  induction l with
  | nil => simp [toLf]
  | cons c r ih => simp only [toLf]; split <;> simp <;> omega

theorem toLf_pos {l : List UInt8} (h : isRem l = true) : 0 < toLf l := by
  match l with
  | [] => simp [isRem] at h
  | [_] => simp [isRem] at h
  | a :: b :: r =>
    simp [isRem] at h
    obtain ⟨rfl, rfl⟩ := h
    simp [toLf]

theorem skipF_fuel : ∀ (k j : Nat) (l : List UInt8), l.length < k → l.length < j → skipF k l = skipF j l
  | 0, j, l, h, _ => by omega
  | k + 1, 0, l, _, h => by omega
  | k + 1, j + 1, [], _, _ => rfl
  | k + 1, j + 1, c :: r, h1, h2 => by
    simp only [List.length_cons] at h1 h2
    simp only [skipF]
    split
    · rw [skipF_fuel k j r (by omega) (by omega)]
    · split
      · rename_i hr
        have hp := toLf_pos hr
        have hl : ((c :: r).drop (toLf (c :: r))).length < r.length + 1 := by simp only [List.length_drop, List.length_cons]; omega
        rw [skipF_fuel k j _ (by omega) (by omega)]
      · rfl

theorem skip_nil : skip [] = 0 := rfl
theorem skip_blank {c : UInt8} {r : List UInt8} (h : isBlank c = true) : skip (c :: r) = skip r + 1 := by
  unfold skip
  simp only [List.length_cons, skipF, h, if_true]
theorem skip_rem {l : List UInt8} (h : isRem l = true) : skip l = toLf l + skip (l.drop (toLf l)) := by
  match l, h with
  | [], h => simp [isRem] at h
  | c :: r, h =>
    have hb : isBlank c = false := by
      match r, h with
      | [], h => simp [isRem] at h
      | b :: r, h =>
        simp [isRem] at h
        obtain ⟨rfl, rfl⟩ := h
        decide
    have hp := toLf_pos h
    unfold skip
    simp only [List.length_cons, skipF, hb, h, if_true]
    simp only [Bool.false_eq_true, if_false]
    rw [skipF_fuel (r.length + 1) (((c :: r).drop (toLf (c :: r))).length + 1)]
    · simp only [List.length_drop, List.length_cons]; omega
    · omega
theorem skip_other {c : UInt8} {r : List UInt8} (h : isBlank c = false) (hr : isRem (c :: r) = false) : skip (c :: r) = 0 := by
  unfold skip
  simp only [List.length_cons, skipF, h, hr, Bool.false_eq_true, if_false]

theorem skip_le (l : List UInt8) : skip l ≤ l.length := by
  have key : ∀ n (l : List UInt8), l.length = n → skip l ≤ l.length := by
    intro n
    induction n using Nat.strongRecOn with
    | _ n ih =>
      intro l hl
      match l with
      | [] => simp [skip_nil]
      | c :: r =>
        cases hb : isBlank c with
        | true =>
          rw [skip_blank hb]
          have := ih r.length (by simp at hl; omega) r rfl
          simp; omega
        | false =>
          cases hr : isRem (c :: r) with
          | true =>
            rw [skip_rem hr]
            have hp := toLf_pos hr
            have hle := toLf_le (c :: r)
            have := ih ((c :: r).drop (toLf (c :: r))).length (by simp only [List.length_drop, List.length_cons] at *; omega) _ rfl
            simp only [List.length_drop] at this
            omega
          | false => rw [skip_other hb hr]; simp
  exact key _ l rfl

theorem indexByte_lf (l : List UInt8) : Go.Lib.indexByte l 10 = -1 ∧ toLf l = l.length ∨ Go.Lib.indexByte l 10 = (toLf l : Int) ∧ 0 ≤ Go.Lib.indexByte l 10 := by
  induction l with
  | nil => left; simp [Go.Lib.indexByte, toLf]
  | cons c r ih =>
    simp only [Go.Lib.indexByte, toLf]
    by_cases hc : c = 10
    · subst hc; right; simp
    · have hc' : (c == 10) = false := by simpa using hc
      simp only [hc', hc, if_false, Bool.false_eq_true]
      rcases ih with ⟨h1, h2⟩ | ⟨h1, h2⟩
      · left; simp [h1, h2]
      · right
        have : ¬ (Go.Lib.indexByte r 10 == -1) = true := by simp; omega
        rw [if_neg this, h1]
        constructor
        · omega
        · omega

theorem contains_ib (l : List UInt8) (c : UInt8) : decide (0 ≤ Go.Lib.indexByte l c) = l.contains c := by
  have h : (0 ≤ Go.Lib.indexByte l c) ↔ c ∈ l := by
    induction l with
    | nil => simp [Go.Lib.indexByte]
    | cons b r ih =>
      have hge := Go.Lib.indexByte_ge r c
      simp only [Go.Lib.indexByte]
      by_cases hb : b = c
      · subst hb; simp
      · have hb' : (b == c) = false := by simpa using hb
        simp only [hb', Bool.false_eq_true, if_false, List.mem_cons, Ne.symm hb, false_or, ← ih]
        split
        · rename_i h; simp at h; omega
        · rename_i h; simp at h; omega
  rw [Bool.eq_iff_iff]; simp [h]

/-! ### tokens -/
structure Tok where
  kind : Nat
  text : List UInt8
  word : Nat
  at_ : Nat
  deriving DecidableEq, Repr

def numVal (l : List UInt8) : Nat := l.foldl (fun n c => 10 * n + (c.toNat - 48)) 0

theorem numVal_snoc (l : List UInt8) (c : UInt8) : numVal (l ++ [c]) = 10 * numVal l + (c.toNat - 48) := by simp [numVal]

inductive TokR where
  | tok (t : Tok)
  | bad (rule at_ : Nat)
  deriving DecidableEq, Repr

/-- the token that begins a text that is not empty; 'i': where -/
def tokAt (r : List UInt8) (i : Nat) : TokR := match r with
  | [] => .bad 1 i
  | c :: _ =>
    if isLetter c then
      let t := r.takeWhile isIdent
      if isWord t then .tok ⟨2, t, 0, i⟩ else if 32 < t.length then .bad 2 (i + 32) else .tok ⟨1, t, 0, i⟩
    else if isDigit c then
      let t := r.takeWhile isDigit
      if (1 < t.length ∧ c = 48) ∨ 9223372036854775807 < numVal t then .bad 3 i
      else match r.drop t.length with
        | d :: _ => if isLetter d then .bad 4 (i + t.length) else .tok ⟨3, t, numVal t, i⟩
        | [] => .tok ⟨3, t, numVal t, i⟩
    else if isSign2 (r.take 2) then .tok ⟨4, r.take 2, 0, i⟩
    else if isSign1 [c] then .tok ⟨4, [c], 0, i⟩
    else .bad 1 i

/-- the tokens ahead of the first fault; the fault -/
def scanF : Nat → List UInt8 → Nat → List Tok × Option (Nat × Nat)
  | 0, _, _ => ([], none)
  | k + 1, r, i =>
    match r.drop (skip r) with
    | [] => ([], none)
    | c :: r' => match tokAt (c :: r') (i + skip r) with
      | .bad rule p => ([], some (rule, p))
      | .tok t => ((t :: (scanF k ((c :: r').drop t.text.length) (i + skip r + t.text.length)).1), (scanF k ((c :: r').drop t.text.length) (i + skip r + t.text.length)).2)
def front (s : List UInt8) : List Tok × Option (Nat × Nat) := scanF (s.length + 1) s 0

theorem tok_len {r : List UInt8} {i : Nat} {t : Tok} (h : tokAt r i = .tok t) : 1 ≤ t.text.length ∧ t.text = r.take t.text.length ∧ t.at_ = i := by
  match r, h with
  | [], h => simp [tokAt] at h
  | c :: r, h =>
    have htw : ∀ p : UInt8 → Bool, (c :: r).takeWhile p = (c :: r).take ((c :: r).takeWhile p).length := fun p => by
      have h := List.takeWhile_append_dropWhile (p := p) (l := c :: r)
      have h2 : (c :: r).take ((c :: r).takeWhile p).length = ((c :: r).takeWhile p ++ (c :: r).dropWhile p).take ((c :: r).takeWhile p).length := by rw [h]
      rw [h2, List.take_left']
      rfl
    have hpos : ∀ p : UInt8 → Bool, p c = true → 1 ≤ ((c :: r).takeWhile p).length := fun p hp => by rw [List.takeWhile_cons, if_pos hp]; simp
    have h2 : ∀ l : List UInt8, isSign2 l = true → l.length = 2 := fun l hl => by
      simp only [isSign2, decide_eq_true_eq] at hl
      rcases hl with h | h | h | h | h | h <;> simp [h]
    simp only [tokAt] at h
    split at h
    · rename_i hc
      have hi : isIdent c = true := by simp [isIdent, hc]
      split at h
      · cases h; exact ⟨hpos _ hi, htw _, rfl⟩
      · split at h
        · cases h
        · cases h; exact ⟨hpos _ hi, htw _, rfl⟩
    · split at h
      · rename_i hd
        split at h
        · cases h
        · split at h
          · split at h
            · cases h
            · cases h; exact ⟨hpos _ hd, htw _, rfl⟩
          · cases h; exact ⟨hpos _ hd, htw _, rfl⟩
      · split at h
        · rename_i hs
          cases h
          have hl := h2 _ hs
          exact ⟨by dsimp only; omega, by dsimp only; rw [hl], rfl⟩
        · split at h
          · cases h; exact ⟨by simp, by simp, rfl⟩
          · cases h

theorem scanF_fuel : ∀ (k j : Nat) (r : List UInt8) (i : Nat), r.length < k → r.length < j → scanF k r i = scanF j r i
  | 0, _, _, _, h, _ => by omega
  | _ + 1, 0, _, _, _, h => by omega
  | k + 1, j + 1, r, i, h1, h2 => by
    simp only [scanF]
    cases hd : r.drop (skip r) with
    | nil => rfl
    | cons c r' =>
      have hl : (c :: r').length ≤ r.length := by rw [← hd]; simp
      cases ht : tokAt (c :: r') (i + skip r) with
      | bad rule p => simp only [ht]
      | tok t =>
        have h3 := (tok_len ht).1
        have h4 : 1 ≤ (c :: r').length := by simp
        have e := scanF_fuel k j ((c :: r').drop t.text.length) (i + skip r + t.text.length) (by simp only [List.length_drop]; omega) (by simp only [List.length_drop]; omega)
        simp only [ht, e]

def scanA (r : List UInt8) (i : Nat) : List Tok × Option (Nat × Nat) := scanF (r.length + 1) r i
theorem front_eq (s : List UInt8) : front s = scanA s 0 := rfl
theorem scanA_end {r : List UInt8} {i : Nat} (h : r.length ≤ skip r) : scanA r i = ([], none) := by
  simp only [scanA, scanF]
  rw [List.drop_eq_nil_of_le h]
theorem scanA_bad {r : List UInt8} {i rule p : Nat} (h : skip r < r.length) (hb : tokAt (r.drop (skip r)) (i + skip r) = .bad rule p) : scanA r i = ([], some (rule, p)) := by
  simp only [scanA, scanF]
  cases hd : r.drop (skip r) with
  | nil => have := congrArg List.length hd; simp at this; omega
  | cons c r' => rw [hd] at hb; simp only [hb]
theorem scanA_tok {r : List UInt8} {i : Nat} {t : Tok} (h : skip r < r.length) (hb : tokAt (r.drop (skip r)) (i + skip r) = .tok t) :
    scanA r i = (t :: (scanA (r.drop (skip r + t.text.length)) (i + skip r + t.text.length)).1, (scanA (r.drop (skip r + t.text.length)) (i + skip r + t.text.length)).2) := by
  have h3 := (tok_len hb).1
  have e : scanA (r.drop (skip r + t.text.length)) (i + skip r + t.text.length) = scanF r.length (r.drop (skip r + t.text.length)) (i + skip r + t.text.length) :=
    scanF_fuel _ _ _ _ (by omega) (by simp only [List.length_drop]; omega)
  rw [e]
  simp only [scanA, scanF]
  cases hd : r.drop (skip r) with
  | nil => have := congrArg List.length hd; simp at this; omega
  | cons c r' =>
    rw [hd] at hb
    simp only [hb]
    rw [← hd, List.drop_drop]

/-- Scan's answer: tokens, error, place, rule -/
def scanRes (s : List UInt8) : List Tok × Nat × Nat × Nat :=
  if 65536 < s.length then ([], 4, 0, 0) else match (front s).2 with
    | none => ((front s).1, 0, 0, 0)
    | some (rule, p) => ([], 20, p, rule)
end LexS


/- Blanks and remarks between tokens: no program in sight. -/
namespace LexS

end LexS


/- Tokens, their places left out: no program in sight. -/
namespace LexS
theorem scan_inv {r : List UInt8} {i : Nat} {t : Tok} {T : List Tok} {f : Option (Nat × Nat)} (h : scanA r i = (t :: T, f)) :
    skip r < r.length ∧ tokAt (r.drop (skip r)) (i + skip r) = .tok t ∧ scanA (r.drop (skip r + t.text.length)) (i + skip r + t.text.length) = (T, f) := by
  rcases Nat.lt_or_ge (skip r) r.length with hk | hk
  · cases hx : tokAt (r.drop (skip r)) (i + skip r) with
    | bad rule q => rw [scanA_bad hk hx] at h; simp at h
    | tok x =>
      rw [scanA_tok hk hx] at h
      simp only [Prod.mk.injEq, List.cons.injEq] at h
      obtain ⟨⟨rfl, h1⟩, h2⟩ := h
      exact ⟨hk, rfl, Prod.ext h1 h2⟩
  · rw [scanA_end hk] at h; simp at h
end LexS


/- Plain laws on tokens that are told: which are right, and that printed they are cut again. -/
namespace LexS
/-- the document's answer for a number's digits -/
def numV (l : List UInt8) : Option Nat := if l = [] ∨ (1 < l.length ∧ l.getD 0 0 = 48) ∨ l.all isDigit = false ∨ 9223372036854775807 < numVal l then none else some (numVal l)
/-- a token is right: cut alone it is itself -/
def rgtB (t : List UInt8) (k w : Int) : Bool := match tokAt t 0 with | .tok x => decide (x.text = t ∧ (x.kind : Int) = k ∧ (x.word : Int) = w) | .bad _ _ => false
/-- the document's word for it -/
def docRight (t : List UInt8) (k w : Int) : Bool :=
  (decide (k = 1) && isName t && decide (w = 0)) || (decide (k = 2) && isWord t && decide (w = 0)) || (decide (k = 3) && decide ((numV t).map (fun n : Nat => (n : Int)) = some w)) || (decide (k = 4) && isSign t && decide (w = 0))

theorem tw_self {p : UInt8 → Bool} : ∀ {l : List UInt8}, l.all p = true → l.takeWhile p = l
  | [], _ => rfl
  | c :: l, h => by
    simp only [List.all_cons, Bool.and_eq_true] at h
    rw [List.takeWhile_cons, if_pos h.1, tw_self h.2]
theorem tw_all (p : UInt8 → Bool) : ∀ (l : List UInt8), (l.takeWhile p).all p = true
  | [] => rfl
  | c :: l => by
    rw [List.takeWhile_cons]
    split
    · rename_i h; simp [h, tw_all p l]
    · rfl
theorem digit_not_letter {c : UInt8} (h : isDigit c = true) : isLetter c = false := by
  simp only [isDigit, isLetter, decide_eq_true_eq, decide_eq_false_iff_not] at *; omega
theorem word_tok {t : List UInt8} (h : isWord t = true) : tokAt t 0 = .tok ⟨2, t, 0, 0⟩ := by
  simp only [isWord, decide_eq_true_eq] at h
  rcases h with h | h | h | h | h | h | h | h | h | h <;> subst h <;> decide
theorem sign_tok {t : List UInt8} (h : isSign t = true) : tokAt t 0 = .tok ⟨4, t, 0, 0⟩ := by
  simp only [isSign, Bool.or_eq_true] at h
  rcases h with h | h
  · simp only [isSign2, decide_eq_true_eq] at h
    rcases h with h | h | h | h | h | h <;> subst h <;> decide
  · match t, h with
    | [], h => simp [isSign1] at h
    | _ :: _ :: _, h => simp [isSign1] at h
    | [c], h =>
      simp only [isSign1, signs1, List.contains_iff_mem, List.mem_cons, List.not_mem_nil, or_false] at h
      rcases h with h | h | h | h | h | h | h | h | h | h | h | h | h | h | h | h | h | h <;> subst h <;> decide
theorem name_tok {t : List UInt8} (h : isName t = true) : tokAt t 0 = .tok ⟨1, t, 0, 0⟩ := by
  match t, h with
  | [], h => simp [isName] at h
  | c :: r, h =>
    simp only [isName, Bool.and_eq_true, decide_eq_true_eq, Bool.not_eq_true'] at h
    obtain ⟨⟨⟨h1, h2⟩, h3⟩, h4⟩ := h
    have hc : isLetter c = true := by
      have := h4
      simp only [List.all_cons, Bool.and_eq_true, isIdent, Bool.or_eq_true, h2, Bool.false_eq_true, or_false] at this
      exact this.1
    simp only [tokAt, hc, if_true, tw_self h4, h3, Bool.false_eq_true, if_false]
    rw [if_neg (by omega)]
theorem num_tok {t : List UInt8} {n : Nat} (h : numV t = some n) : tokAt t 0 = .tok ⟨3, t, n, 0⟩ := by
  unfold numV at h
  split at h
  · cases h
  · rename_i hn
    cases h
    simp only [not_or, Bool.not_eq_false] at hn
    obtain ⟨h1, h2, h3, h4⟩ := hn
    match t, h1 with
    | c :: r, _ =>
      have hd : isDigit c = true := by simp only [List.all_cons, Bool.and_eq_true] at h3; exact h3.1
      simp only [tokAt, digit_not_letter hd, hd, Bool.false_eq_true, if_false, if_true, tw_self h3]
      rw [if_neg (by rintro (h | h); exact h2 ⟨h.1, by simpa using h.2⟩; omega)]
      simp
/-- a token that is cut is right -/
theorem tok_right {r : List UInt8} {i : Nat} {x : Tok} (h : tokAt r i = .tok x) : (x.kind = 1 ∧ isName x.text = true ∧ x.word = 0) ∨ (x.kind = 2 ∧ isWord x.text = true ∧ x.word = 0) ∨ (x.kind = 3 ∧ numV x.text = some x.word) ∨ (x.kind = 4 ∧ isSign x.text = true ∧ x.word = 0) := by
  match r, h with
  | [], h => simp [tokAt] at h
  | c :: r, h =>
    simp only [tokAt] at h
    split at h
    · rename_i hc
      split at h
      · rename_i hw; cases h; exact .inr (.inl ⟨rfl, hw, rfl⟩)
      · rename_i hw
        split at h
        · cases h
        · rename_i hl
          cases h
          refine .inl ⟨rfl, ?_, rfl⟩
          have hi : isIdent c = true := by simp [isIdent, hc]
          have ha := tw_all isIdent (c :: r)
          have hnd : isDigit c = false := by
            simp only [isDigit, isLetter, decide_eq_true_eq, decide_eq_false_iff_not] at *; omega
          rw [List.takeWhile_cons, if_pos hi] at hw hl ha ⊢
          simp only [isName, hnd, ha, Bool.not_eq_true] at *
          simp only [hw]
          simp at hl ⊢
          omega
    · split at h
      · rename_i hc hd
        split at h
        · cases h
        · rename_i hn
          have key : numV ((c :: r).takeWhile isDigit) = some (numVal ((c :: r).takeWhile isDigit)) := by
            unfold numV
            rw [if_neg]
            have ha := tw_all isDigit (c :: r)
            rw [List.takeWhile_cons, if_pos hd] at hn ha ⊢
            rintro (h | h | h | h)
            · cases h
            · exact hn (.inl ⟨h.1, by simpa using h.2⟩)
            · rw [ha] at h; cases h
            · exact hn (.inr h)
          split at h
          · split at h
            · cases h
            · cases h; exact .inr (.inr (.inl ⟨rfl, key⟩))
          · cases h; exact .inr (.inr (.inl ⟨rfl, key⟩))
      · split at h
        · rename_i hs
          cases h; exact .inr (.inr (.inr ⟨rfl, by show isSign _ = true; unfold isSign; rw [hs]; rfl, rfl⟩))
        · split at h
          · rename_i hs
            cases h; exact .inr (.inr (.inr ⟨rfl, by simp [isSign, hs], rfl⟩))
          · cases h
theorem rgt_doc (t : List UInt8) (k w : Int) : rgtB t k w = docRight t k w := by
  rw [Bool.eq_iff_iff]
  constructor
  · intro h
    unfold rgtB at h
    split at h
    · rename_i x hx
      simp only [decide_eq_true_eq] at h
      obtain ⟨h1, rfl, rfl⟩ := h
      have := tok_right hx
      rw [h1] at this
      unfold docRight
      rcases this with ⟨a, b, c⟩ | ⟨a, b, c⟩ | ⟨a, b⟩ | ⟨a, b, c⟩ <;> simp [a, b] <;> (try simp [c])
    · cases h
  · intro h
    unfold docRight at h
    simp only [Bool.or_eq_true, Bool.and_eq_true, decide_eq_true_eq] at h
    unfold rgtB
    rcases h with ((⟨⟨rfl, h⟩, rfl⟩ | ⟨⟨rfl, h⟩, rfl⟩) | ⟨rfl, h⟩) | ⟨⟨rfl, h⟩, rfl⟩
    · rw [name_tok h]; simp
    · rw [word_tok h]; simp
    · cases hn : numV t with
      | none => rw [hn] at h; cases h
      | some n => rw [hn] at h; simp at h; subst h; rw [num_tok hn]; simp
    · rw [sign_tok h]; simp
theorem rgt_of {r : List UInt8} {i : Nat} {x : Tok} (h : tokAt r i = .tok x) : rgtB x.text x.kind x.word = true := by
  rw [rgt_doc]
  unfold docRight
  rcases tok_right h with ⟨a, b, c⟩ | ⟨a, b, c⟩ | ⟨a, b⟩ | ⟨a, b, c⟩ <;> simp [a, b] <;> (try simp [c])
theorem scan_right : ∀ (T : List Tok) (r : List UInt8) (i : Nat) (f : Option (Nat × Nat)), scanA r i = (T, f) → ∀ x ∈ T, rgtB x.text x.kind x.word = true
  | [], r, i, f, h, x, hx => by simp at hx
  | t :: T, r, i, f, h, x, hx => by
    obtain ⟨h1, h2, h3⟩ := scan_inv h
    rcases List.mem_cons.1 hx with rfl | hx
    · exact rgt_of h2
    · exact scan_right T _ _ _ h3 x hx
end LexS


/- Plain laws on numbers as texts: they are cut as one number. -/
namespace LexS
end LexS


/- The operators, their signs and levels: no program in sight. -/
namespace LexS
/-- the operators' signs and levels -/
def sgnT : List (List UInt8 × Int) := [([], 0), ([43], 7), ([45], 7), ([42], 8), ([47], 8), ([37], 8), ([38], 3), ([124], 1), ([94], 2), ([60, 60], 6), ([62, 62], 6), ([61, 61], 4), ([33, 61], 4), ([60], 5), ([60, 61], 5), ([62], 5), ([62, 61], 5), ([45], 9), ([33], 9)]
def sgn (k : Nat) : List UInt8 := (sgnT.getD k ([], 0)).1
def lvl (k : Nat) : Int := (sgnT.getD k ([], 0)).2
def knownOp (k : Int) : Bool := decide (0 < k ∧ k < 19)
def twoOp (k : Int) : Bool := decide (0 < k ∧ k < 17)
def lvlO (k : Int) : Int := if knownOp k = true then lvl k.toNat else 0
def oneOp (k : Int) : Bool := decide (k = 17 ∨ k = 18)
/-- the operator of two with a sign -/
def findO (s : List UInt8) : Option Nat := (List.range 19).find? fun k => twoOp (k : Int) && decide (sgn k = s)
end LexS


/- What the parser computes, in plain words: no program in sight. -/
namespace ParS
open Sx LexS

/-- a rule that a text breaks, and where: (place, rule) -/
abbrev Flt := Nat × Nat
abbrev PR (α : Type) := Except Flt (α × List Tok)
def tok0 : Tok := ⟨0, [], 0, 0⟩
def here (ts : List Tok) : Tok := match ts with | t :: _ => t | [] => tok0
/-- the place of what stands here; 'e': the text's length -/
def atT (e : Nat) (ts : List Tok) : Nat := match ts with | t :: _ => t.at_ | [] => e
def isT (s : List UInt8) (ts : List Tok) : Bool := decide ((here ts).text = s) && (decide ((here ts).kind = 2) || decide ((here ts).kind = 4))
def fail {α : Type} (e rule : Nat) (ts : List Tok) : Except Flt α := .error (atT e ts, rule)
def want (e : Nat) (s : List UInt8) (ts : List Tok) : Except Flt (List Tok) := if isT s ts = true then .ok ts.tail else fail e 2 ts
def nameP (e : Nat) (ts : List Tok) : PR Tok := if (here ts).kind = 1 then .ok (here ts, ts.tail) else fail e 2 ts
def declP (e : Nat) (ts : List Tok) : PR Dc := match nameP e ts with
  | .error f => .error f
  | .ok (t, r) => .ok (⟨t.text, 0, (t.at_ : Int)⟩, r)
/-- a number behind a sign, or not -/
def wordP (e : Nat) (minus : Bool) (ts : List Tok) : PR Int := if (here ts).kind = 3 then .ok (if minus = true then -((here ts).word : Int) else ((here ts).word : Int), ts.tail) else fail e 2 ts
def initP (e : Nat) (ts : List Tok) : PR Dc := match nameP e ts with
  | .error f => .error f
  | .ok (t, r) => if isT [61] r = true then
      (match wordP e (isT [45] r.tail) (if isT [45] r.tail = true then r.tail.tail else r.tail) with
        | .error f => .error f
        | .ok (x, r') => .ok (⟨t.text, x, (t.at_ : Int)⟩, r'))
    else .ok (⟨t.text, 0, (t.at_ : Int)⟩, r)
/-- one or more, with commas between and a ; behind -/
def listP (e : Nat) (one : List Tok → PR Dc) : Nat → List Tok → PR (List Dc)
  | 0, ts => .error (0, 0)
  | n + 1, ts => match one ts with
    | .error f => .error f
    | .ok (d, r) => if isT [44] r = true then (match listP e one n r.tail with
        | .error f => .error f
        | .ok (l, r') => .ok (d :: l, r'))
      else match want e [59] r with
        | .error f => .error f
        | .ok r' => .ok ([d], r')

/-! ### expressions -/
/-- an operator of two that stands here -/
def opT (t : Tok) : Option Nat := if t.kind = 4 then findO t.text else none
/-- operators and what stands behind them -/
def flatE (u : List Tok → PR Ex) : Nat → List Tok → PR (List (Nat × Nat × Ex))
  | 0, ts => .error (0, 0)
  | n + 1, ts => match opT (here ts) with
    | none => .ok ([], ts)
    | some op => match u ts.tail with
      | .error f => .error f
      | .ok (x, r) => match flatE u n r with
        | .error f => .error f
        | .ok (l, r') => .ok ((op, (here ts).at_, x) :: l, r')
def binE (op a : Nat) (x y : Ex) : Ex := .mk 4 (op : Int) 0 [] [x, y] (a : Int)
abbrev Pend := Nat × Nat × Ex
/-- operators that wait and bind as strongly take their second side -/
def redu (all : Bool) (lv : Int) : List Pend → Ex → List Pend × Ex
  | [], x => ([], x)
  | (op, a, l) :: w, x => if all = true ∨ lv ≤ lvlO (op : Int) then redu all lv w (binE op a l x) else ((op, a, l) :: w, x)
def shunt : List Pend → List Pend → Ex → Ex
  | [], w, x => (redu true 0 w x).2
  | (op, a, y) :: r, w, x => shunt r ((op, a, (redu false (lvlO (op : Int)) w x).2) :: (redu false (lvlO (op : Int)) w x).1) y
def exprW (u : List Tok → PR Ex) (ts : List Tok) : PR Ex := match u ts with
  | .error f => .error f
  | .ok (x, r) => match flatE u (r.length + 1) r with
    | .error f => .error f
    | .ok (l, r') => .ok (shunt l [] x, r')
def leafP (e : Nat) (ts : List Tok) : PR Ex :=
  if (here ts).kind = 3 then .ok (.mk 1 0 ((here ts).word : Int) [] [] ((here ts).at_ : Int), ts.tail)
  else if (here ts).kind = 1 then .ok (.mk 2 0 0 (here ts).text [] ((here ts).at_ : Int), ts.tail)
  else fail e 2 ts
def innerT (ts : List Tok) : Bool := isT [45] ts || isT [33] ts || isT [40] ts
/-- 'm': how much deeper it may lie -/
def unaryP (e : Nat) : Nat → List Tok → PR Ex
  | 0, ts => if innerT ts = true then fail e 3 ts else leafP e ts
  | m + 1, ts => if innerT ts = true then
      (if (here ts).text = [40] then (match exprW (unaryP e m) ts.tail with
        | .error f => .error f
        | .ok (x, r) => match want e [41] r with
          | .error f => .error f
          | .ok r' => .ok (x, r'))
      else match unaryP e m ts.tail with
        | .error f => .error f
        | .ok (x, r) => .ok (.mk 3 (if (here ts).text = [33] then 18 else 17) 0 [] [x] ((here ts).at_ : Int), r))
    else leafP e ts
def exprP (e m : Nat) (ts : List Tok) : PR Ex := exprW (unaryP e m) ts

/-! ### statements -/
def condP (e : Nat) (ts : List Tok) : PR Ex := match want e [40] ts with
  | .error f => .error f
  | .ok r => match exprP e 64 r with
    | .error f => .error f
    | .ok (x, r1) => match want e [41] r1 with
      | .error f => .error f
      | .ok r2 => .ok (x, r2)
def exprSemi (e : Nat) (ts : List Tok) : PR Ex := match exprP e 64 ts with
  | .error f => .error f
  | .ok (x, r) => match want e [59] r with
    | .error f => .error f
    | .ok r' => .ok (x, r')
/-- what a swap's parentheses hold, and the ; -/
def swapP (e : Nat) (ts : List Tok) : PR (List UInt8 × Ex) := match want e [40] ts with
  | .error f => .error f
  | .ok r => match nameP e r with
    | .error f => .error f
    | .ok (t, r1) => match want e [44] r1 with
      | .error f => .error f
      | .ok r2 => match exprP e 64 r2 with
        | .error f => .error f
        | .ok (x, r3) => match want e [41] r3 with
          | .error f => .error f
          | .ok r4 => match want e [59] r4 with
            | .error f => .error f
            | .ok r5 => .ok ((t.text, x), r5)
def assignP (e : Nat) (a : Nat) (ts : List Tok) : PR Sm := match nameP e ts with
  | .error f => .error f
  | .ok (t, r) => match want e [61] r with
    | .error f => .error f
    | .ok r1 => if isT wSwap r1 = true then (match swapP e r1.tail with
        | .error f => .error f
        | .ok ((o, x), r2) => .ok (.mk 2 t.text o [x] [] [] (a : Int), r2))
      else match exprSemi e r1 with
        | .error f => .error f
        | .ok (x, r2) => .ok (.mk 1 t.text [] [x] [] [] (a : Int), r2)
/-- a word that a statement begins with -/
def formT (t : Tok) (s : List UInt8) : Bool := decide (t.text = s) && decide (t.kind = 2)
/-- a statement; 'blk': a block within -/
def stmtW (e : Nat) (blk : List Tok → PR (List Sm)) (ts : List Tok) : PR Sm :=
  if formT (here ts) wIf = true then (match condP e ts.tail with
    | .error f => .error f
    | .ok (x, r) => match blk r with
      | .error f => .error f
      | .ok (b, r1) => if isT wElse r1 = true then (match blk r1.tail with
          | .error f => .error f
          | .ok (l, r2) => .ok (.mk 3 [] [] [x] b l (atT e ts : Int), r2))
        else .ok (.mk 3 [] [] [x] b [] (atT e ts : Int), r1))
  else if formT (here ts) wWhile = true then (match condP e ts.tail with
    | .error f => .error f
    | .ok (x, r) => match blk r with
      | .error f => .error f
      | .ok (b, r1) => .ok (.mk 4 [] [] [x] b [] (atT e ts : Int), r1))
  else if formT (here ts) wLock = true then (match nameP e ts.tail with
    | .error f => .error f
    | .ok (t, r) => match blk r with
      | .error f => .error f
      | .ok (b, r1) => .ok (.mk 5 t.text [] [] b [] (atT e ts : Int), r1))
  else if formT (here ts) wPrint = true then (match exprSemi e ts.tail with
    | .error f => .error f
    | .ok (x, r) => .ok (.mk 6 [] [] [x] [] [] (atT e ts : Int), r))
  else if formT (here ts) wSkip = true then (match want e [59] ts.tail with
    | .error f => .error f
    | .ok r => .ok (.mk 7 [] [] [] [] [] (atT e ts : Int), r))
  else assignP e (atT e ts) ts
/-- statements up to the } , which is gone over -/
def restW (st : List Tok → PR Sm) : Nat → List Tok → PR (List Sm)
  | 0, ts => .error (0, 0)
  | n + 1, ts => if isT [125] ts = true then .ok ([], ts.tail) else match st ts with
    | .error f => .error f
    | .ok (s, r) => match restW st n r with
      | .error f => .error f
      | .ok (l, r') => .ok (s :: l, r')
/-- 'm': how much deeper blocks may lie -/
def stmtP (e : Nat) : Nat → List Tok → PR Sm
  | 0, ts => stmtW e (fun r => if isT [123] r = true then fail e 3 r else fail e 2 r) ts
  | m + 1, ts => stmtW e (fun r => match want e [123] r with
    | .error f => .error f
    | .ok r1 => restW (stmtP e m) (r1.length + 1) r1) ts
def restP (e m : Nat) (ts : List Tok) : PR (List Sm) := restW (stmtP e m) (ts.length + 1) ts

/-! ### programs -/
def localsP (e : Nat) : Nat → List Tok → PR (List Dc)
  | 0, ts => .error (0, 0)
  | n + 1, ts => if isT wLocal ts = true then (match listP e (declP e) (ts.length + 1) ts.tail with
      | .error f => .error f
      | .ok (l, r) => match localsP e n r with
        | .error f => .error f
        | .ok (l', r') => .ok (l ++ l', r'))
    else .ok ([], ts)
def threadP (e : Nat) (ts : List Tok) : PR Th := match nameP e ts with
  | .error f => .error f
  | .ok (t, r) => match want e [123] r with
    | .error f => .error f
    | .ok r1 => match localsP e (r1.length + 1) r1 with
      | .error f => .error f
      | .ok (l, r2) => match restP e 63 r2 with
        | .error f => .error f
        | .ok (b, r3) => .ok (⟨t.text, l, b, (t.at_ : Int)⟩, r3)
def threadsP (e : Nat) : Nat → List Tok → PR (List Th)
  | 0, ts => .error (0, 0)
  | n + 1, ts => if isT wThread ts = true then (match threadP e ts.tail with
      | .error f => .error f
      | .ok (t, r) => match threadsP e n r with
        | .error f => .error f
        | .ok (l, r') => .ok (t :: l, r'))
    else .ok ([], ts)
def progP (e : Nat) : Nat → List Tok → Except Flt Pg
  | 0, ts => .error (0, 0)
  | n + 1, ts => if isT wShared ts = true then (match listP e (initP e) (ts.length + 1) ts.tail with
      | .error f => .error f
      | .ok (l, r) => match progP e n r with
        | .error f => .error f
        | .ok p => .ok ⟨l ++ p.shared, p.locks, p.threads⟩)
    else if isT wLock ts = true then (match listP e (declP e) (ts.length + 1) ts.tail with
      | .error f => .error f
      | .ok (l, r) => match progP e n r with
        | .error f => .error f
        | .ok p => .ok ⟨p.shared, l ++ p.locks, p.threads⟩)
    else match threadsP e (ts.length + 1) ts with
      | .error f => .error f
      | .ok (l, r) => if r.length = 0 then .ok ⟨[], [], l⟩ else fail e 2 r
/-- Parse's answer: a program, an error, a place, a rule -/
def pg0 : Pg := ⟨[], [], []⟩
def parseRes (s : List UInt8) : Pg × Nat × Nat × Nat :=
  if 65536 < s.length then (pg0, 4, 0, 0) else match (front s).2 with
    | some (rule, p) => (pg0, 30, p, 1)
    | none => match progP s.length ((front s).1.length + 1) (front s).1 with
      | .error f => (pg0, 30, f.1, f.2)
      | .ok p => (p, 0, 0, 0)
end ParS


/- What the parser computes, more: wanted words one after another; rests are rests of the tokens. -/
namespace ParS
open Sx LexS

/-- words that must stand here, one behind the other -/
def wantL (e : Nat) : List (List UInt8) → List Tok → Except Flt (List Tok)
  | [], ts => .ok ts
  | s :: l, ts => match want e s ts with
    | .error f => .error f
    | .ok r => wantL e l r
theorem wantL_one (e : Nat) (s : List UInt8) (ts : List Tok) : wantL e [s] ts = want e s ts := by
  simp only [wantL]; split <;> simp_all
theorem isT_ne {s : List UInt8} {r : List Tok} (h : isT s r = true) : r ≠ [] := by
  rintro rfl; simp [isT, here, tok0] at h
theorem kind_ne {k : Nat} {r : List Tok} (h : (here r).kind = k) (hk : k ≠ 0) : r ≠ [] := by
  rintro rfl; exact hk h.symm
theorem inner_ne {r : List Tok} (h : innerT r = true) : r ≠ [] := by rintro rfl; simp [innerT, isT, here, tok0] at h
theorem tail_lt {r : List Tok} (h : r ≠ []) : r.tail.length < r.length := by
  cases r with
  | nil => exact absurd rfl h
  | cons x l => simp
theorem want_ok {e : Nat} {s : List UInt8} {ts r : List Tok} (h : want e s ts = .ok r) : isT s ts = true ∧ r = ts.tail := by
  unfold want at h; split at h
  · rename_i hc; cases h; exact ⟨hc, rfl⟩
  · cases h
theorem want_pos {e : Nat} {s : List UInt8} {ts : List Tok} (h : isT s ts = true) : want e s ts = .ok ts.tail := by unfold want; rw [if_pos h]
theorem want_neg {e : Nat} {s : List UInt8} {ts : List Tok} (h : isT s ts = false) : want e s ts = .error (atT e ts, 2) := by unfold want; rw [if_neg (by simp [h])]; rfl
end ParS


/- A parser in memory: its tokens, its place; what its functions hand back, and how they fail. -/
namespace Sx
open Go Go.RowKit LexS ParS

abbrev tkL (t : Tok) : List Value := [.int .u8 (t.kind : Int), str t.text, .int .i64 (t.word : Int), .int .i64 (t.at_ : Int)]
abbrev exC (e : Ex) (oa : Option Addr) (cap : Nat) : List Value := [.int .u8 e.k, .int .u8 e.op, .int .i64 e.wd, str e.nm, .slice oa e.kids.length cap, .int .i64 e.a]
abbrev smC (s : Sm) (oe ob ol : Option Addr) (ce cb cl : Nat) : List Value := [.int .u8 s.k, str s.nm, str s.other, .slice oe s.e.length ce, .slice ob s.body.length cb, .slice ol s.els.length cl, .int .i64 s.a]
abbrev thC (t : Th) (ol ob : Option Addr) (cl cb : Nat) : List Value := [str t.nm, .slice ol t.locals.length cl, .slice ob t.body.length cb, .int .i64 t.a]
abbrev pgC (p : Pg) (os ol ot : Option Addr) (cs cl ct : Nat) : List Value := [.slice os p.shared.length cs, .slice ol p.locks.length cl, .slice ot p.threads.length ct]

/-- the operators' signs and levels, in the block of a variable -/
def SigAt (g : Nat) (w : World) : Prop := ∀ k, k < 19 → w.cell? ⟨g, k * 2, none⟩ = some (str (sgn k)) ∧ w.cell? ⟨g, k * 2 + 1, none⟩ = some (.int .i64 (lvl k))
theorem SigAt.kept {g : Nat} {M : List Nat} {w w' : World} (h : SigAt g w) (c : Chg M w w') (hg : g ∉ M) : SigAt g w' := fun k hk => ⟨c.cell (h k hk).1 hg, c.cell (h k hk).2 hg⟩

/-- what stays as long as a parser goes: 'pb' its block; 'n0': older blocks stay; 'T' the parser's type, 'R' the refusal's; 'g' the signs' block -/
structure PCtx where
  pb : Nat
  n0 : Nat
  oa : Option Addr
  cap : Nat
  ts : List Tok
  e : Nat
  T : Nat
  R : Nat
  g : Nat
/-- the parser's cells: its tokens, its place, the text's end; 'r' is what is left -/
abbrev pcell (c : PCtx) (r : List Tok) : List Value := [.slice c.oa c.ts.length c.cap, .int .i64 ((c.ts.length - r.length : Nat) : Int), .int .i64 (c.e : Int)]
abbrev PAt (c : PCtx) (r : List Tok) (w : World) : Prop := w.heap[c.pb]? = some (.cells (pcell c r).toArray c.T (0, 0))
/-- a refusal, as a panic's value -/
abbrev refV (c : PCtx) (f : Flt) : Value := .iface c.R (.agg #[.int .i64 (f.1 : Int), .int .i64 (f.2 : Int)])

structure PCok (c : PCtx) (w : World) : Prop where
  row : RowC w (· < c.n0) 4 c.oa c.ts.length (fun j => tkL (c.ts.getD j tok0))
  n0 : c.n0 ≤ c.pb
  g : c.g < c.n0
  len : c.ts.length ≤ 1048576
  el : c.e ≤ 1048576
  sig : SigAt c.g w
  le : c.n0 ≤ w.heap.size
  wd : ∀ t ∈ c.ts, t.word ≤ 9223372036854775807
theorem PCok.kept {c : PCtx} {M : List Nat} {w w' : World} (h : PCok c w) (k : Chg M w w') (hM : ∀ b ∈ M, c.n0 ≤ b) : PCok c w' :=
  ⟨h.row.kept (.of_chg k fun b hb hm => absurd (hM b hm) (Nat.not_le.2 hb)), h.n0, h.g, h.len, h.el, h.sig.kept k (fun hm => absurd (hM _ hm) (Nat.not_le.2 h.g)), Nat.le_trans h.le k.size, h.wd⟩
theorem PCok.k1 {c : PCtx} {w w' : World} (h : PCok c w) (k : Chg [c.pb] w w') : PCok c w' := h.kept k (by simpa using h.n0)
theorem PCok.k2 {c : PCtx} {b : Nat} {w w' : World} (h : PCok c w) (k : Chg [c.pb, b] w w') (hb : c.n0 ≤ b) : PCok c w' := h.kept k (by simpa using ⟨h.n0, hb⟩)

theorem suf_get {ts r : List Tok} (h : r <:+ ts) (hr : r ≠ []) : ts.getD (ts.length - r.length) tok0 = here r ∧ ts.length - r.length < ts.length := by
  obtain ⟨a, rfl⟩ := h
  cases r with
  | nil => exact absurd rfl hr
  | cons x l =>
    have e : (a ++ x :: l).length - (x :: l).length = a.length := by simp
    rw [e]
    exact ⟨by simp [List.getD, here], by simp⟩
theorem suf_len {ts r : List Tok} (h : r <:+ ts) : r.length ≤ ts.length := h.length_le
theorem suf_tail {ts r : List Tok} (h : r <:+ ts) : r.tail <:+ ts := (List.tail_suffix r).trans h
theorem here_wd {ts r : List Tok} (h : ∀ t ∈ ts, t.word ≤ 9223372036854775807) (hr : r <:+ ts) : (here r).word ≤ 9223372036854775807 := by
  cases r with
  | nil => exact Nat.zero_le _
  | cons x l => exact h x (hr.subset (.head _))
theorem neg_i64 {n : Nat} (h : n ≤ 9223372036854775807) : IntKind.i64.wrap (0 - (n : Int)) = -(n : Int) := by rw [IntWalk.i64_in _ ⟨by omega, by omega⟩]; omega
theorem here_nil {r : List Tok} (h : r.length = 0) : here r = tok0 := by rw [List.eq_nil_of_length_eq_zero h]; rfl
theorem atT_nil {e : Nat} {r : List Tok} (h : r.length = 0) : atT e r = e := by rw [List.eq_nil_of_length_eq_zero h]; rfl
theorem atT_cons {e : Nat} {r : List Tok} (h : r ≠ []) : atT e r = (here r).at_ := by cases r with | nil => exact absurd rfl h | cons x l => rfl

/-- the cells of the token that stands here -/
theorem PCok.tok {c : PCtx} {w : World} (h : PCok c w) {r : List Tok} (hs : r <:+ c.ts) (hr : r ≠ []) : ∃ b off, c.oa = some ⟨b, off, none⟩ ∧ ∀ i v, (tkL (here r))[i]? = some v → w.cell? ⟨b, off + (c.ts.length - r.length) * 4 + i, none⟩ = some v := by
  obtain ⟨h1, h2⟩ := suf_get hs hr
  rcases h.row with h0 | ⟨b, off, e, hb, hl, hc⟩
  · omega
  · refine ⟨b, off, e, fun i v hi => (hc _ h2).2 i v ?_⟩
    dsimp only; rw [h1]; exact hi

/-- what a function of a parser hands back -/
def PRes {α : Type} (c : PCtx) (r : List Tok) (res : PR α) (M : List Nat) (w : World) (H : α → Value → World → Prop) (v : Value) (w' : World) : Prop :=
  ∃ x r', res = .ok (x, r') ∧ r' <:+ r ∧ r'.length < r.length ∧ PAt c r' w' ∧ Chg M w w' ∧ H x v w'
/-- it refuses -/
def PErr {α : Type} (c : PCtx) (res : Except Flt α) (M : List Nat) (w : World) (v : Value) (w' : World) : Prop :=
  ∃ f, res = .error f ∧ v = refV c f ∧ Chg M w w'

section
variable {w w' w0 : World} {M : List Nat} {hs : List Res}
/-- a block that is held has been written on by a callee -/
theorem St.prs {b : Nat} {o o' : Obj} (st : St w0 M hs w) (i : Nat) (hi : nth hs i = some (.blk b o)) (ch : Chg [b] w w') (hm : b ∈ M ∨ w0.heap.size ≤ b) (h' : w'.heap[b]? = some o') : St w0 M (setNth hs i (.blk b o')) w' :=
  st.turn hi rfl rfl ch hm h'
/-- and something new has come -/
theorem St.prsT {b : Nat} {o o' : Obj} {q : Res} (st : St w0 M hs w) (i : Nat) (hi : nth hs i = some (.blk b o)) (ch : Chg [b] w w') (hm : b ∈ M ∨ w0.heap.size ≤ b) (h' : w'.heap[b]? = some o')
    (hq : q.holds w0.heap.size w') (hqa : ∀ k ∈ q.at?, w.heap.size ≤ k) : St w0 M (q :: setNth hs i (.blk b o')) w' :=
  st.swapPush hi ch (by simp [Res.at?]) (by simpa using hm) (by simp [Res.at?]) h' hq hqa
/-- two blocks that are held are two -/
theorem St.bne {b b' : Nat} {o o' : Obj} (st : St w0 M hs w) (i j : Nat) (hij : i ≠ j) (hi : nth hs i = some (.blk b o)) (hj : nth hs j = some (.blk b' o')) : b ≠ b' := fun e => apart_nth st.nodup hij hi hj b (.head _) (by rw [e]; exact .head _)
theorem holds_ex {tE base : Nat} {oa : Option Addr} {cap : Nat} {es : List Ex} {S : List Nat} (h : ExR tE w oa cap es S) : (Res.tree S fun w => ExR tE w oa cap es S).holds base w := holds_of h h.lt (fun a b h hk => h.kept hk)
theorem holds_sm {tE tS base : Nat} {oa : Option Addr} {cap : Nat} {es : List Sm} {S : List Nat} (h : SmR tE tS w oa cap es S) : (Res.tree S fun w => SmR tE tS w oa cap es S).holds base w := holds_of h h.lt (fun a b h hk => h.kept hk)
theorem holds_dc {tD base : Nat} {oa : Option Addr} {cap : Nat} {es : List Dc} {S : List Nat} (h : DcR tD w oa cap es S) : (Res.tree S fun w => DcR tD w oa cap es S).holds base w := holds_of h h.lt (fun a b h hk => h.kept hk)
end
end Sx


namespace Go.Proofs.YtggnfanphcaamaaGreatDoor
open Go.RowKit Sx LexS _root_.Go.Proofs.Tryz
theorem Tryz.mixed : Tryz.prog.follows .mixedOrders = true := by kernel_rfl

theorem digit_any (c : UInt8) (w : World) : Ret Tryz.prog 60 [.int .u8 (c.toNat : Int)] w fun v w' => v = .bool (isDigit c) ∧ w' = w := by
 refine ret_of [_] func60 rfl ntmps60 rfl ?_
 have st := St.init w []
 refine sr ?_
 refine ya ?_
 refine et (vk1 0 (sr ?_))
 refine ym ?_
 refine vy (y_geq rfl rfl) ?_
 refine vmb ?_ ?_
 intro hg5
 try simp only [dn] at hg5
 refine ym ?_
 refine vy (y_leq rfl rfl) ?_
 refine ypt ?_
 rotate_left
 intro hg5
 try simp only [dn] at hg5
 iterate 2 refine vsk ?_
 refine ypf ?_
 all_goals
  refine ya ?_
  refine et (vk1 2 (vc_ret ?_))
  refine vq_ret1 st (.inl rfl) results60 (.tmp rfl) ?_
  refine ⟨_, rfl, ?_⟩
  exact ⟨by rw [Value.bool.injEq, Bool.eq_iff_iff]; simp only [isDigit, decide_eq_true_eq, true_iff, Bool.false_eq_true, false_iff]; omega, rfl⟩
theorem letter_any (c : UInt8) (w : World) : Ret Tryz.prog 59 [.int .u8 (c.toNat : Int)] w fun v w' => v = .bool (isLetter c) ∧ w' = w := by
 refine ret_of [_] func59 rfl ntmps59 rfl ?_
 have st := St.init w []
 refine sr ?_
 refine ya ?_
 refine et (vk1 0 (sr ?_))
 refine ym ?_
 refine vy (y_geq rfl rfl) ?_
 refine vmb ?_ ?_
 focus
  intro hg5
  try simp only [dn] at hg5
  refine ym ?_
  refine vy (y_leq rfl rfl) ?_
  refine ypt ?_
  refine vmb ?_ ?_
  intro hg9
  try simp only [dn] at hg9
  iterate 6 refine vsk ?_
  refine ypt ?_
  refine ym ?_
  iterate 2 refine vsk ?_
  refine ypt ?_
  rotate_left
  focus
   intro hg9
   try simp only [dn] at hg9
   refine ym ?_
   refine vy (y_geq rfl rfl) ?_
   refine vmb ?_ ?_
   focus
    intro hg12
    try simp only [dn] at hg12
    refine ym ?_
    refine vy (y_leq rfl rfl) ?_
    refine ypt ?_
    refine ypf ?_
    refine vmb ?_ ?_
    intro hg17
    try simp only [dn] at hg17
    iterate 2 refine vsk ?_
    refine ypt ?_
    rotate_left
    intro hg17
    try simp only [dn] at hg17
    refine ym ?_
    refine vy (y_eqi rfl rfl) ?_
    refine ypf ?_
   rotate_left 2
   intro hg12
   try simp only [dn] at hg12
   iterate 2 refine vsk ?_
   iterate 2 refine ypf ?_
   iterate 2 refine ym ?_
   refine vy (y_eqi rfl rfl) ?_
   refine ypf ?_
 rotate_left 4
 focus
  intro hg5
  try simp only [dn] at hg5
  iterate 2 refine vsk ?_
  refine ypf ?_
  iterate 2 refine ym ?_
  refine vy (y_geq rfl rfl) ?_
  refine vmb ?_ ?_
  focus
   intro hg12
   try simp only [dn] at hg12
   refine ym ?_
   refine vy (y_leq rfl rfl) ?_
   refine ypt ?_
   refine ypf ?_
   refine vmb ?_ ?_
   intro hg17
   try simp only [dn] at hg17
   iterate 2 refine vsk ?_
   refine ypt ?_
   rotate_left
   intro hg17
   try simp only [dn] at hg17
   refine ym ?_
   refine vy (y_eqi rfl rfl) ?_
   refine ypf ?_
  rotate_left 2
  intro hg12
  try simp only [dn] at hg12
  iterate 2 refine vsk ?_
  iterate 2 refine ypf ?_
  iterate 2 refine ym ?_
  refine vy (y_eqi rfl rfl) ?_
  refine ypf ?_
 all_goals
  refine ya ?_
  refine et (vk1 2 (vc_ret ?_))
  refine vq_ret1 st (.inl rfl) results59 (.tmp rfl) ?_
  refine ⟨_, rfl, ?_⟩
  exact ⟨by rw [Value.bool.injEq, Bool.eq_iff_iff]; simp only [isLetter, decide_eq_true_eq, true_iff, Bool.false_eq_true, false_iff]; omega, rfl⟩
theorem blank_any (c : UInt8) (w : World) : Ret Tryz.prog 66 [.int .u8 (c.toNat : Int)] w fun v w' => v = .bool (isBlank c) ∧ w' = w := by
 refine ret_of [_] func66 rfl ntmps66 rfl ?_
 have st := St.init w []
 refine sr ?_
 refine ya ?_
 refine et (vk1 0 (sr ?_))
 refine ym ?_
 refine vy (y_eqi rfl rfl) ?_
 refine vmb ?_ ?_
 intro hg5
 try simp only [dn] at hg5
 iterate 2 refine vsk ?_
 refine ypt ?_
 refine ym ?_
 iterate 2 refine vsk ?_
 refine ypt ?_
 refine ym ?_
 iterate 2 refine vsk ?_
 refine ypt ?_
 rotate_left
 focus
  intro hg5
  try simp only [dn] at hg5
  refine ym ?_
  refine vy (y_eqi rfl rfl) ?_
  refine ypf ?_
  refine vmb ?_ ?_
  intro hg9
  try simp only [dn] at hg9
  iterate 2 refine vsk ?_
  refine ypt ?_
  refine ym ?_
  iterate 2 refine vsk ?_
  refine ypt ?_
  rotate_left
  focus
   intro hg9
   try simp only [dn] at hg9
   refine ym ?_
   refine vy (y_eqi rfl rfl) ?_
   refine ypf ?_
   refine vmb ?_ ?_
   intro hg13
   try simp only [dn] at hg13
   iterate 2 refine vsk ?_
   refine ypt ?_
   rotate_left
   intro hg13
   try simp only [dn] at hg13
   refine ym ?_
   refine vy (y_eqi rfl rfl) ?_
   refine ypf ?_
 all_goals
  refine ya ?_
  refine et (vk1 2 (vc_ret ?_))
  refine vq_ret1 st (.inl rfl) results66 (.tmp rfl) ?_
  refine ⟨_, rfl, ?_⟩
  exact ⟨by rw [Value.bool.injEq, Bool.eq_iff_iff]; simp only [isBlank, decide_eq_true_eq, true_iff, Bool.false_eq_true, false_iff]; omega, rfl⟩
theorem rdigit_any (c : UInt8) (w : World) : Ret Tryz.prog 76 [.int .u8 (c.toNat : Int)] w fun v w' => v = .bool (isDigit c) ∧ w' = w := by
 refine ret_of [_] func76 rfl ntmps76 rfl ?_
 have st := St.init w []
 refine sr ?_
 refine ya ?_
 refine et (vk1 0 (sr ?_))
 refine ym ?_
 refine vy (y_geq rfl rfl) ?_
 refine vmb ?_ ?_
 intro hg5
 try simp only [dn] at hg5
 refine ym ?_
 refine vy (y_leq rfl rfl) ?_
 refine ypt ?_
 rotate_left
 intro hg5
 try simp only [dn] at hg5
 iterate 2 refine vsk ?_
 refine ypf ?_
 all_goals
  refine ya ?_
  refine et (vk1 2 (vc_ret ?_))
  refine vq_ret1 st (.inl rfl) results76 (.tmp rfl) ?_
  refine ⟨_, rfl, ?_⟩
  exact ⟨by rw [Value.bool.injEq, Bool.eq_iff_iff]; simp only [isDigit, decide_eq_true_eq, true_iff, Bool.false_eq_true, false_iff]; omega, rfl⟩
theorem rletter_any (c : UInt8) (w : World) : Ret Tryz.prog 75 [.int .u8 (c.toNat : Int)] w fun v w' => v = .bool (isLetter c) ∧ w' = w := by
 refine ret_of [_] func75 rfl ntmps75 rfl ?_
 have st := St.init w []
 refine sr ?_
 refine ya ?_
 refine et (vk1 0 (sr ?_))
 refine ym ?_
 refine vy (y_geq rfl rfl) ?_
 refine vmb ?_ ?_
 focus
  intro hg5
  try simp only [dn] at hg5
  refine ym ?_
  refine vy (y_leq rfl rfl) ?_
  refine ypt ?_
  refine vmb ?_ ?_
  intro hg9
  try simp only [dn] at hg9
  iterate 6 refine vsk ?_
  refine ypt ?_
  refine ym ?_
  iterate 2 refine vsk ?_
  refine ypt ?_
  rotate_left
  focus
   intro hg9
   try simp only [dn] at hg9
   refine ym ?_
   refine vy (y_geq rfl rfl) ?_
   refine vmb ?_ ?_
   focus
    intro hg12
    try simp only [dn] at hg12
    refine ym ?_
    refine vy (y_leq rfl rfl) ?_
    refine ypt ?_
    refine ypf ?_
    refine vmb ?_ ?_
    intro hg17
    try simp only [dn] at hg17
    iterate 2 refine vsk ?_
    refine ypt ?_
    rotate_left
    intro hg17
    try simp only [dn] at hg17
    refine ym ?_
    refine vy (y_eqi rfl rfl) ?_
    refine ypf ?_
   rotate_left 2
   intro hg12
   try simp only [dn] at hg12
   iterate 2 refine vsk ?_
   iterate 2 refine ypf ?_
   iterate 2 refine ym ?_
   refine vy (y_eqi rfl rfl) ?_
   refine ypf ?_
 rotate_left 4
 focus
  intro hg5
  try simp only [dn] at hg5
  iterate 2 refine vsk ?_
  refine ypf ?_
  iterate 2 refine ym ?_
  refine vy (y_geq rfl rfl) ?_
  refine vmb ?_ ?_
  focus
   intro hg12
   try simp only [dn] at hg12
   refine ym ?_
   refine vy (y_leq rfl rfl) ?_
   refine ypt ?_
   refine ypf ?_
   refine vmb ?_ ?_
   intro hg17
   try simp only [dn] at hg17
   iterate 2 refine vsk ?_
   refine ypt ?_
   rotate_left
   intro hg17
   try simp only [dn] at hg17
   refine ym ?_
   refine vy (y_eqi rfl rfl) ?_
   refine ypf ?_
  rotate_left 2
  intro hg12
  try simp only [dn] at hg12
  iterate 2 refine vsk ?_
  iterate 2 refine ypf ?_
  iterate 2 refine ym ?_
  refine vy (y_eqi rfl rfl) ?_
  refine ypf ?_
 all_goals
  refine ya ?_
  refine et (vk1 2 (vc_ret ?_))
  refine vq_ret1 st (.inl rfl) results75 (.tmp rfl) ?_
  refine ⟨_, rfl, ?_⟩
  exact ⟨by rw [Value.bool.injEq, Bool.eq_iff_iff]; simp only [isLetter, decide_eq_true_eq, true_iff, Bool.false_eq_true, false_iff]; omega, rfl⟩
theorem rblank_any (c : UInt8) (w : World) : Ret Tryz.prog 74 [.int .u8 (c.toNat : Int)] w fun v w' => v = .bool (isBlank c) ∧ w' = w := by
 refine ret_of [_] func74 rfl ntmps74 rfl ?_
 have st := St.init w []
 refine sr ?_
 refine ya ?_
 refine et (vk1 0 (sr ?_))
 refine ym ?_
 refine vy (y_eqi rfl rfl) ?_
 refine vmb ?_ ?_
 intro hg5
 try simp only [dn] at hg5
 iterate 2 refine vsk ?_
 refine ypt ?_
 refine ym ?_
 iterate 2 refine vsk ?_
 refine ypt ?_
 refine ym ?_
 iterate 2 refine vsk ?_
 refine ypt ?_
 rotate_left
 focus
  intro hg5
  try simp only [dn] at hg5
  refine ym ?_
  refine vy (y_eqi rfl rfl) ?_
  refine ypf ?_
  refine vmb ?_ ?_
  intro hg9
  try simp only [dn] at hg9
  iterate 2 refine vsk ?_
  refine ypt ?_
  refine ym ?_
  iterate 2 refine vsk ?_
  refine ypt ?_
  rotate_left
  focus
   intro hg9
   try simp only [dn] at hg9
   refine ym ?_
   refine vy (y_eqi rfl rfl) ?_
   refine ypf ?_
   refine vmb ?_ ?_
   intro hg13
   try simp only [dn] at hg13
   iterate 2 refine vsk ?_
   refine ypt ?_
   rotate_left
   intro hg13
   try simp only [dn] at hg13
   refine ym ?_
   refine vy (y_eqi rfl rfl) ?_
   refine ypf ?_
 all_goals
  refine ya ?_
  refine et (vk1 2 (vc_ret ?_))
  refine vq_ret1 st (.inl rfl) results74 (.tmp rfl) ?_
  refine ⟨_, rfl, ?_⟩
  exact ⟨by rw [Value.bool.injEq, Bool.eq_iff_iff]; simp only [isBlank, decide_eq_true_eq, true_iff, Bool.false_eq_true, false_iff]; omega, rfl⟩
end Go.Proofs.YtggnfanphcaamaaGreatDoor


namespace Go.Proofs.YtggnfanphcaamaaGreatDoor
open Go.RowKit Sx LexS ParS _root_.Go.Proofs.Tryz

theorem known_any (k : Int) (w : World) : Ret Tryz.prog 106 [.int .u8 k] w fun v w' => v = .bool (knownOp k) ∧ w' = w := by
 refine ret_of [_] func106 rfl ntmps106 rfl ?_
 have st := St.init w []
 refine sr ?_
 refine ya ?_
 refine et (vk1 0 (sr ?_))
 refine ym ?_
 refine vy (y_gtr rfl rfl) ?_
 refine vmb ?_ ?_
 intro hg5
 try simp only [dn] at hg5
 refine ym ?_
 refine vy (y_lss rfl rfl) ?_
 refine ypt ?_
 rotate_left
 intro hg5
 try simp only [dn] at hg5
 iterate 2 refine vsk ?_
 refine ypf ?_
 all_goals
  refine ya ?_
  refine et (vk1 2 (vc_ret ?_))
  refine vq_ret1 st (.inl rfl) results106 (.tmp rfl) ?_
  refine ⟨_, rfl, ?_⟩
  refine ⟨?_, rfl⟩
  congr 1
  unfold knownOp
  (symm; simp; omega)
theorem two_any (k : Int) (w : World) : Ret Tryz.prog 105 [.int .u8 k] w fun v w' => v = .bool (twoOp k) ∧ w' = w := by
 refine ret_of [_] func105 rfl ntmps105 rfl ?_
 have st := St.init w []
 refine sr ?_
 refine ya ?_
 refine et (vk1 0 (sr ?_))
 refine ym ?_
 refine vc_e (e_call [_] rfl rfl call106 rfl (known_any _ _) ?_)
 rintro _ _ ⟨rfl, rfl⟩
 refine vmb ?_ ?_
 focus
  intro hg5
  refine ym ?_
  refine vy (y_nei rfl rfl) ?_
  refine ypt ?_
  refine vmb ?_ ?_
  intro hg9
  refine ym ?_
  refine vy (y_nei rfl rfl) ?_
  refine ypt ?_
  rotate_left
  intro hg9
  iterate 2 refine vsk ?_
  refine ypf ?_
 rotate_left 2
 intro hg5
 iterate 2 refine vsk ?_
 refine ypf ?_
 refine ym ?_
 iterate 2 refine vsk ?_
 refine ypf ?_
 all_goals
  refine ya ?_
  refine et (vk1 2 (vc_ret ?_))
  refine vq_ret1 st (.inl rfl) results105 (.tmp rfl) ?_
  refine ⟨_, rfl, ?_⟩
  refine ⟨?_, rfl⟩
  show Value.bool _ = Value.bool _
  congr 1
  unfold knownOp at *
  unfold twoOp
  simp only [decide_eq_true_eq, decide_eq_false_iff_not, Bool.not_eq_true', Bool.not_eq_false'] at *
  first | (symm; rw [decide_eq_false_iff_not]; omega) | (rw [Bool.eq_iff_iff]; simp only [Bool.not_eq_true', decide_eq_false_iff_not, decide_eq_true_eq]; omega)
theorem level_any (k : Int) (w : World) (hs : SigAt 1 w) : Ret Tryz.prog 102 [.int .u8 k] w fun v w' => v = .int .i64 (lvlO k) ∧ w' = w := by
 refine ret_of [_] func102 rfl ntmps102 rfl ?_
 have st := St.init w []
 refine sr ?_
 refine ya ?_
 refine et (vk1 0 (vc_seq (sr ?_)))
 refine ym ?_
 refine vc_e (e_call [_] rfl rfl call106 rfl (known_any _ _) ?_)
 rintro _ _ ⟨rfl, rfl⟩
 refine vy (y_not rfl) ?_
 refine et (vk2 0 5 ?_)
 refine vif ?_ ?_
 ·intro hc5
  refine sr ?_
  refine ya ?_
  refine et (vk1 2 (vc_ret (vq_then_ret ?_)))
  refine vq_ret1 st (.inl rfl) results102 (.tmp rfl) ?_
  refine ⟨_, rfl, ?_⟩
  refine ⟨?_, rfl⟩
  unfold lvlO
  rw [if_neg (by simpa using hc5)]
 intro hc5
 have hk : 0 < k ∧ k < 19 := by simpa [knownOp] using hc5
 obtain ⟨m, rfl⟩ : ∃ m : Nat, k = (m : Int) := ⟨k.toNat, by omega⟩
 refine kt (vk1 0 (sr ?_))
 refine ym ?_
 refine vy (y_iaa (k := m) rfl rfl underlying129 sizeOf128 rfl (by omega)) ?_
 refine vy (y_fa (k := 1) rfl underlying128 rfl rfl sizeOf3 rfl) ?_
 refine vy ((by exact y_ldc rfl isAgg3 (by have h := (hs m (by omega)).2; rw [Nat.zero_add]; exact h))) ?_
 refine ya ?_
 refine et (vk1 2 (vc_ret ?_))
 refine vq_ret1 st (.inl rfl) results102 (.tmp rfl) ?_
 refine ⟨_, rfl, ?_⟩
 refine ⟨?_, rfl⟩
 unfold lvlO
 rw [if_pos (by simpa using hc5)]
 rfl
/-- no operator of two below 'j' has the sign -/
def noOp (s : List UInt8) (j : Nat) : Prop := ∀ k, k < j → (twoOp (k : Int) && decide (sgn k = s)) = false
theorem findO_at {s : List UInt8} {j : Nat} (hj : j < 19) (h : noOp s j) (h2 : twoOp (j : Int) = true) (h3 : sgn j = s) : findO s = some j := by
 unfold findO
 rw [List.find?_eq_some_iff_append]
 refine ⟨by simp [h2, h3], List.range j, (List.range' (j + 1) (18 - j)), ?_, fun k hk => (by have := h k (by simpa using hk); show (!(twoOp (k : Int) && decide (sgn k = s))) = true; rw [this]; rfl)⟩
 rw [List.range_eq_range', List.range_eq_range', show 19 = j + (19 - j) by omega, ← List.range'_append_1]
 rw [show 19 - j = (18 - j) + 1 by omega, List.range'_succ]
 simp
theorem findO_no {s : List UInt8} (h : noOp s 19) : findO s = none := by
 unfold findO
 rw [List.find?_eq_none]
 intro k hk
 have := h k (by simpa using hk)
 show ¬ (twoOp (k : Int) && decide (sgn k = s)) = true
 rw [this]; simp
theorem noOp_step {s : List UInt8} {j : Nat} (h : noOp s j) (h2 : (twoOp (j : Int) && decide (sgn j = s)) = false) : noOp s (j + 1) := fun k hk => by
 rcases Nat.lt_or_ge k j with h1 | h1
 ·exact h k h1
 ·obtain rfl : k = j := by omega
  exact h2

theorem find_any (s : List UInt8) (w : World) (hs : SigAt 1 w) : Ret Tryz.prog 101 [str s] w fun v w' => v = .tuple [.int .u8 (((findO s).getD 0 : Nat) : Int), .bool (findO s).isSome].toArray ∧ w' = w := by
 refine ret_of [_] func101 rfl ntmps101 rfl ?_
 have st := St.init w []
 obtain ⟨w0, rfl⟩ : ∃ w0, w0 = w := ⟨_, rfl⟩
 refine sr ?_
 iterate 2 refine ya ?_
 refine et (vk1 0 (vc_seq (sr ?_)))
 refine ym ?_
 refine et (vk2 0 5 (vc_block ?_))
 refine vc_loop (w0 := w0) (M := []) (fun (j : Nat) => [(0, str s), (5, .int .u8 (j : Int))]) (fun _ => []) (fun j w' => j ≤ 19 ∧ noOp s j ∧ w' = w0) (fun j => 19 - j) 0 ⟨rfl, rfl, trivial⟩ st ⟨by simp, fun k hk => by omega, rfl⟩ ?_
 clear st
 rintro j w ⟨hj, hno, rfl⟩ st
 refine sr ?_
 refine vy (y_lss rfl rfl) ?_
 refine et (vk3 0 5 6 (vc_seq ?_))
 refine vif ?_ ?_
 ·intro hc6
  try simp only [dn] at hc6
  refine kt (vk2 0 5 (vc_seq (vc_block (sr ?_))))
  refine ym ?_
  refine ya ?_
  refine et (vk3 0 4 5 (sr ?_))
  refine ym ?_
  refine vc_e (e_call [_] rfl rfl call105 rfl (two_any _ _) ?_)
  rintro _ _ ⟨rfl, rfl⟩
  refine vmb ?_ ?_
  ·intro hg10
   try simp only [dn] at hg10
   refine ym ?_
   refine vy (y_iaa (k := j) rfl rfl underlying129 sizeOf128 rfl (by omega)) ?_
   refine vy (y_fa0 rfl underlying128 rfl rfl sizeOf9 rfl) ?_
   refine vy ((by exact y_ldc rfl isAgg9 (by have h := (hs j (by omega)).1; rw [Nat.zero_add]; exact h))) ?_
   refine ym ?_
   refine vy (y_eqs rfl rfl) ?_
   refine ypt ?_
   refine et (vk4 0 4 5 17 ?_)
   refine vif ?_ ?_
   ·intro hc17
    try simp only [dn] at hc17
    refine sr ?_
    refine ym ?_
    iterate 2 refine ya ?_
    refine et (vk2 2 3 (vc_ret (vq_block_ret (vq_then_ret (vq_then_ret (vq_block_ret (vq_then_ret ?_)))))))
    refine vq_ret2 st (.inl rfl) results101 (.tmp rfl) (.tmp rfl) ?_
    refine ⟨_, rfl, ?_⟩
    have he : findO s = some j := findO_at (by omega) hno (by simp_all) (by simp_all)
    rw [he]
    exact ⟨rfl, rfl⟩
   intro hc17
   try simp only [dn] at hc17
   refine vc_code_skip (vq_block (vq_then (vk2 0 5 (vc_region ?_))))
   refine vy (y_addk rfl rfl (by rw [wrap_u8]; omega : _ = ((j + 1 : Nat) : Int))) ?_
   refine ym ?_
   refine vc_end ?_
   refine vq_again (j + 1)  ⟨rfl, rfl, trivial⟩ st ?_ ?_
   ·exact ⟨by omega, noOp_step hno (by simp_all), rfl⟩
   omega
  intro hg10
  try simp only [dn] at hg10
  iterate 6 refine vsk ?_
  refine ypf ?_
  refine et (vk4 0 4 5 17 ?_)
  refine vc_iff rfl ?_
  refine vc_code_skip (vq_block (vq_then (vk2 0 5 (vc_region ?_))))
  refine vy (y_addk rfl rfl (by rw [wrap_u8]; omega : _ = ((j + 1 : Nat) : Int))) ?_
  refine ym ?_
  refine vc_end ?_
  refine vq_again (j + 1)  ⟨rfl, rfl, trivial⟩ st ?_ ?_
  ·exact ⟨by omega, noOp_step hno (by simp_all), rfl⟩
  omega
 intro hc6
 try simp only [dn] at hc6
 refine vc_exit (vq_then_exit (vq_then_exit (vq_block_exit (vq_then (vc_keep [] trivial (sr ?_))))))
 iterate 2 refine ya ?_
 refine et (vk2 2 3 (vc_ret ?_))
 refine vq_ret2 st (.inl rfl) results101 (.tmp rfl) (.tmp rfl) ?_
 refine ⟨_, rfl, ?_⟩
 obtain rfl : j = 19 := by omega
 have he : findO s = none := findO_no hno
 rw [he]
 exact ⟨rfl, rfl⟩
end Go.Proofs.YtggnfanphcaamaaGreatDoor


/- A parser's trees: operators that wait; new rows of one and of two. -/
namespace Sx
open Go Go.RowKit LexS ParS

/-- the cells of an operator that waits, with its first side -/
abbrev pdC (p : Pend) (oa : Option Addr) (cap : Nat) : List Value := [.int .u8 (p.1 : Int), .int .i64 (p.2.1 : Int), .int .u8 p.2.2.k, .int .u8 p.2.2.op, .int .i64 p.2.2.wd, str p.2.2.nm, .slice oa p.2.2.kids.length cap, .int .i64 p.2.2.a]
/-- operators that wait: their cells, the top one's last; the blocks of their first sides -/
def PdSs (tE : Nat) (w : World) : List Pend → List Value → List Nat → Prop
  | [], xs, S => xs = [] ∧ S = []
  | p :: W, xs, S => ∃ oa cap S1 xr Sr, xs = xr ++ pdC p oa cap ∧ S = Sr ++ S1 ∧ ExR tE w oa cap p.2.2.kids S1 ∧ PdSs tE w W xr Sr
section
variable {tE : Nat} {w w' : World}
theorem PdSs.len : ∀ {W : List Pend} {xs : List Value} {S : List Nat}, PdSs tE w W xs S → xs.length = W.length * 8
  | [], xs, S, h => by rw [h.1]; rfl
  | p :: W, xs, S, ⟨oa, cap, S1, xr, Sr, e1, e2, h1, h2⟩ => by
    have := PdSs.len h2
    rw [e1]; simp; omega
theorem PdSs.lt : ∀ {W : List Pend} {xs : List Value} {S : List Nat}, PdSs tE w W xs S → ∀ b ∈ S, b < w.heap.size
  | [], xs, S, h, b, hb => by rw [h.2] at hb; simp at hb
  | p :: W, xs, S, ⟨oa, cap, S1, xr, Sr, e1, e2, h1, h2⟩, b, hb => by
    rw [e2] at hb
    rcases List.mem_append.1 hb with h | h
    · exact PdSs.lt h2 b h
    · exact h1.lt b h
theorem PdSs.kept : ∀ {W : List Pend} {xs : List Value} {S : List Nat}, PdSs tE w W xs S → (∀ b ∈ S, w'.heap[b]? = w.heap[b]?) → PdSs tE w' W xs S
  | [], xs, S, h, _ => h
  | p :: W, xs, S, ⟨oa, cap, S1, xr, Sr, e1, e2, h1, h2⟩, hk => by
    subst e2
    exact ⟨oa, cap, S1, xr, Sr, e1, rfl, h1.kept (fun b hb => hk b (List.mem_append.2 (.inr hb))), PdSs.kept h2 (fun b hb => hk b (List.mem_append.2 (.inl hb)))⟩
theorem holds_pd {base : Nat} {W : List Pend} {xs : List Value} {S : List Nat} (h : PdSs tE w W xs S) : (Res.tree S fun w => PdSs tE w W xs S).holds base w := holds_of h h.lt (fun a b h hk => h.kept hk)

theorem loc_ex {oa : Option Addr} {cap : Nat} {es : List Ex} {S : List Nat} : Loc S fun w => ExR tE w oa cap es S := loc_of fun a b h hk => h.kept hk
theorem loc_pd {W : List Pend} {xs : List Value} {S : List Nat} : Loc S fun w => PdSs tE w W xs S := loc_of fun a b h hk => h.kept hk
/-- a new block as a row -/
theorem own_new {b E sz len : Nat} {l : List Value} (h : w.heap[b]? = some (.cells l.toArray E (0, 0))) (hlen : l.length = len * sz) (hm : len ≤ maxLen) : w.ownsRow 0 E sz (.slice (some ⟨b, 0, none⟩) len len) len l := by
  refine ⟨hlen, .inr ⟨b, len, l.toArray, rfl, Nat.zero_le _, h, Nat.le_refl _, hm, by simpa using hlen, ?_⟩⟩
  rw [← hlen]
  simp
theorem ex_one {b : Nat} {x : Ex} {ox : Option Addr} {cx : Nat} {S : List Nat} (h : w.heap[b]? = some (.cells (exC x ox cx).toArray tE (0, 0))) (hx : ExR tE w ox cx x.kids S) : ExR tE w (some ⟨b, 0, none⟩) 1 [x] (b :: S) :=
  ⟨exC x ox cx, S, own_new h rfl (by simp [maxLen]), rfl, ExSs_one.2 (ExS_iff.2 ⟨ox, cx, rfl, hx⟩)⟩
theorem ex_two {b : Nat} {x y : Ex} {ox oy : Option Addr} {cx cy : Nat} {S T : List Nat} (h : w.heap[b]? = some (.cells (exC x ox cx ++ exC y oy cy).toArray tE (0, 0))) (hx : ExR tE w ox cx x.kids S) (hy : ExR tE w oy cy y.kids T) :
    ExR tE w (some ⟨b, 0, none⟩) 2 [x, y] (b :: (S ++ T)) :=
  ⟨exC x ox cx ++ exC y oy cy, S ++ T, own_new h rfl (by simp [maxLen]), rfl, (ExSs_app (a := [x]) (b := [y])).2 ⟨_, _, S, T, rfl, rfl, ExSs_one.2 (ExS_iff.2 ⟨ox, cx, rfl, hx⟩), ExSs_one.2 (ExS_iff.2 ⟨oy, cy, rfl, hy⟩)⟩⟩
end
section
variable {w w' w0 : World} {M : List Nat} {hs : List Res}
/-- an owned row, shortened -/
theorem own_take {base E size n m cap : Nat} {oa : Option Addr} {xs ys : List Value} (h : w.ownsRow base E size (.slice oa n cap) n (xs ++ ys)) (hm : m ≤ n) (hx : xs.length = m * size) : w.ownsRow base E size (.slice oa m cap) m xs := by
  rcases h with ⟨hl, h⟩
  refine ⟨hx, ?_⟩
  rcases h with ⟨e, h0⟩ | ⟨g, c, cur, e, hb, hg, hnc, hcm, hcs, htake⟩
  · simp only [Value.slice.injEq] at e
    obtain ⟨rfl, e2, rfl⟩ := e
    obtain rfl : m = 0 := by omega
    exact .inl ⟨rfl, rfl⟩
  · simp only [Value.slice.injEq] at e
    obtain ⟨rfl, -, rfl⟩ := e
    refine .inr ⟨g, cap, cur, rfl, hb, hg, by omega, hcm, hcs, ?_⟩
    have h1 : cur.toList.take (n * size) = xs ++ ys := by simpa using htake
    have h2 : m * size ≤ n * size := Nat.mul_le_mul_right _ hm
    have h3 : cur.toList.take (m * size) = xs := by
      have : cur.toList.take (m * size) = (cur.toList.take (n * size)).take (m * size) := by rw [List.take_take, Nat.min_eq_left h2]
      rw [this, h1, ← hx, List.take_left]
    simpa using h3
theorem own_cap {base E size n cap : Nat} {oa : Option Addr} {xs : List Value} (h : w.ownsRow base E size (.slice oa n cap) n xs) : n ≤ cap := by
  rcases h.2 with ⟨e, h0⟩ | ⟨g, c, cur, e, hb, hg, hnc, _⟩
  · omega
  · simp only [Value.slice.injEq] at e; omega
theorem own_some {base E size n cap : Nat} {oa : Option Addr} {xs : List Value} (h : w.ownsRow base E size (.slice oa n cap) n xs) (hn : 0 < n) : ∃ g, oa = some ⟨g, 0, none⟩ := by
  obtain ⟨g, c, e, -⟩ := own_form h hn
  simp only [Value.slice.injEq] at e
  exact ⟨g, e.1⟩
theorem app_at {α : Type} {xr l : List α} {k j : Nat} (h : xr.length = k) : (xr ++ l)[k + j]? = l[j]? := by rw [List.getElem?_append_right (by omega)]; congr 1; omega
theorem St.shrink {E size n m cap : Nat} {oa : Option Addr} {xs ys : List Value} (st : St w0 M (.own (.slice oa n cap) E size n (xs ++ ys) :: hs) w) (hm : m ≤ n) (hx : xs.length = m * size) : St w0 M (.own (.slice oa m cap) E size m xs :: hs) w :=
  st.turn0 (fun k hk => by rw [Res.at?, obk_own] at hk ⊢; exact hk) (own_take (st.res (i := 0) rfl) hm hx)
end

/-! ### what is parsed, so much having come -/
def contE (u : List Tok → PR Ex) (n : Nat) (W : List Pend) (x : Ex) (r : List Tok) : PR Ex := match flatE u n r with
  | .error f => .error f
  | .ok (l, r') => .ok (shunt l W x, r')
theorem exprW_cont (u : List Tok → PR Ex) (r : List Tok) : exprW u r = match u r with
    | .error f => .error f
    | .ok (x, r1) => contE u (r1.length + 1) [] x r1 := by
  unfold exprW contE
  cases u r with
  | error f => rfl
  | ok p => rfl
theorem redu_all : ∀ (lv lv' : Int) (W : List Pend) (x : Ex), redu true lv W x = redu true lv' W x
  | lv, lv', [], x => rfl
  | lv, lv', (op, a, l) :: W, x => by simp only [redu, true_or, if_true]; exact redu_all lv lv' W _
theorem contE_stop {u : List Tok → PR Ex} {n : Nat} {W : List Pend} {x z : Ex} {r : List Tok} {lv : Int} (h : opT (here r) = none) (hz : redu true lv W x = ([], z)) : contE u (n + 1) W x r = .ok (z, r) := by
  simp only [contE, flatE, h, shunt]
  rw [redu_all 0 lv, hz]
theorem contE_step {u : List Tok → PR Ex} {n : Nat} {W W' : List Pend} {x z : Ex} {r : List Tok} {op : Nat} (h : opT (here r) = some op) (hz : redu false (lvlO (op : Int)) W x = (W', z)) : contE u (n + 1) W x r = match u r.tail with
    | .error f => .error f
    | .ok (y, r') => contE u n ((op, (here r).at_, z) :: W') y r' := by
  simp only [contE, flatE, h]
  cases hu : u r.tail with
  | error f => rfl
  | ok p =>
    simp only
    cases hf : flatE u n p.2 with
    | error f => rfl
    | ok q => simp only [shunt]; rw [hz]
structure ESt where
  W : List Pend
  x : Ex
  r : List Tok
  n : Nat
  ow : Option Addr
  cw : Nat
  xs : List Value
  SW : List Nat
  ox : Option Addr
  cx : Nat
  Sx : List Nat
end Sx


/- The parser by operators that wait, and the one that climbs: the same trees. -/
namespace ParS
open Sx LexS

abbrev Flat := Nat × Nat × Ex
/-- climbing along operators that are cut already -/
def climbL : Nat → Int → Ex → List Flat → Ex × List Flat
  | 0, lv, x, l => (x, l)
  | n + 1, lv, x, [] => (x, [])
  | n + 1, lv, x, (op, a, y) :: l => if lvlO (op : Int) < lv then (x, (op, a, y) :: l) else
      climbL n lv (binE op a x (climbL n (lvlO (op : Int) + 1) y l).1) (climbL n (lvlO (op : Int) + 1) y l).2
theorem climbL_len : ∀ (n : Nat) (lv : Int) (x : Ex) (l : List Flat), (climbL n lv x l).2.length ≤ l.length
  | 0, lv, x, l => Nat.le_refl _
  | n + 1, lv, x, [] => Nat.le_refl _
  | n + 1, lv, x, (op, a, y) :: l => by
    simp only [climbL]
    split
    · exact Nat.le_refl _
    · have h1 := climbL_len n (lvlO (op : Int) + 1) y l
      have h2 := climbL_len n lv (binE op a x (climbL n (lvlO (op : Int) + 1) y l).1) (climbL n (lvlO (op : Int) + 1) y l).2
      simp only [List.length_cons]; omega
theorem climbL_fuel : ∀ (n m : Nat) (lv : Int) (x : Ex) (l : List Flat), l.length < n → l.length < m → climbL n lv x l = climbL m lv x l
  | 0, m, lv, x, l, h, _ => by omega
  | n + 1, 0, lv, x, l, _, h => by omega
  | n + 1, m + 1, lv, x, [], _, _ => rfl
  | n + 1, m + 1, lv, x, (op, a, y) :: l, h1, h2 => by
    simp only [List.length_cons] at h1 h2
    simp only [climbL]
    rw [climbL_fuel n m (lvlO (op : Int) + 1) y l (by omega) (by omega)]
    split
    · rfl
    · have h3 := climbL_len m (lvlO (op : Int) + 1) y l
      exact climbL_fuel n m _ _ _ (by omega) (by omega)
/-- what waits, finished by climbing -/
def contW : List Pend → Ex → List Flat → Ex
  | [], x, l => (climbL (l.length + 1) 1 x l).1
  | (op, a, left) :: W, x, l => contW W (binE op a left (climbL (l.length + 1) (lvlO (op : Int) + 1) x l).1) (climbL (l.length + 1) (lvlO (op : Int) + 1) x l).2
theorem contW_nil : ∀ (W : List Pend) (x : Ex), contW W x [] = (redu true 0 W x).2
  | [], x => rfl
  | (op, a, left) :: W, x => by
    simp only [contW, redu, climbL, true_or, if_true]
    exact contW_nil W _
theorem contW_push (W : List Pend) (op a : Nat) (x y : Ex) (l : List Flat) (h1 : 1 ≤ lvlO (op : Int)) (h2 : ∀ p W', W = p :: W' → lvlO (p.1 : Int) < lvlO (op : Int)) : contW W x ((op, a, y) :: l) = contW ((op, a, x) :: W) y l := by
  have key : ∀ lv : Int, lv ≤ lvlO (op : Int) → climbL (((op, a, y) :: l).length + 1) lv x ((op, a, y) :: l) =
      climbL ((climbL (l.length + 1) (lvlO (op : Int) + 1) y l).2.length + 1) lv (binE op a x (climbL (l.length + 1) (lvlO (op : Int) + 1) y l).1) (climbL (l.length + 1) (lvlO (op : Int) + 1) y l).2 := by
    intro lv hlv
    simp only [List.length_cons, climbL]
    rw [if_neg (by omega)]
    have h3 := climbL_len (l.length + 1) (lvlO (op : Int) + 1) y l
    exact climbL_fuel _ _ _ _ _ (by omega) (by omega)
  cases W with
  | nil => simp only [contW]; rw [key 1 h1]
  | cons p W =>
    obtain ⟨o, b, left⟩ := p
    simp only [contW]
    rw [key (lvlO (o : Int) + 1) (by have := h2 _ _ rfl; simp at this; omega)]
theorem contW_pop (W : List Pend) (o b op a : Nat) (left x y : Ex) (l : List Flat) (h : lvlO (op : Int) ≤ lvlO (o : Int)) : contW ((o, b, left) :: W) x ((op, a, y) :: l) = contW W (binE o b left x) ((op, a, y) :: l) := by
  simp only [contW, List.length_cons, climbL]
  rw [if_pos (by omega)]
theorem shunt_step : ∀ (W : List Pend) (x : Ex) (op a : Nat) (y : Ex) (l : List Flat), 1 ≤ lvlO (op : Int) →
    contW W x ((op, a, y) :: l) = contW ((op, a, (redu false (lvlO (op : Int)) W x).2) :: (redu false (lvlO (op : Int)) W x).1) y l
  | [], x, op, a, y, l, h => contW_push [] op a x y l h (by simp)
  | (o, b, left) :: W, x, op, a, y, l, h => by
    by_cases hc : lvlO (op : Int) ≤ lvlO (o : Int)
    · rw [contW_pop W o b op a left x y l hc, shunt_step W _ op a y l h]
      simp only [redu, Bool.false_eq_true, false_or, hc, if_true]
    · simp only [redu, Bool.false_eq_true, false_or, hc, if_false]
      exact contW_push _ op a x y l h (by rintro p W' e; simp only [List.cons.injEq] at e; obtain ⟨rfl, rfl⟩ := e; simp; omega)
/-- every operator of the list binds -/
def FlatOk (l : List Flat) : Prop := ∀ p ∈ l, 1 ≤ lvlO (p.1 : Int)
theorem shunt_cont : ∀ (l : List Flat) (W : List Pend) (x : Ex), FlatOk l → shunt l W x = contW W x l
  | [], W, x, _ => by simp only [shunt]; rw [contW_nil]
  | (op, a, y) :: l, W, x, h => by
    simp only [shunt]
    rw [shunt_step W x op a y l (h _ (.head _)), shunt_cont l _ _ (fun p hp => h p (.tail _ hp))]
theorem shunt_climb (l : List Flat) (x : Ex) (h : FlatOk l) : shunt l [] x = (climbL (l.length + 1) 1 x l).1 := shunt_cont l [] x h
theorem climbL_all : ∀ (n : Nat) (x : Ex) (l : List Flat), l.length < n → FlatOk l → (climbL n 1 x l).2 = []
  | 0, x, l, h, _ => by omega
  | n + 1, x, [], _, _ => rfl
  | n + 1, x, (op, a, y) :: l, h, hf => by
    simp only [List.length_cons] at h
    simp only [climbL]
    rw [if_neg (by have := hf _ (.head _); simp at this; omega)]
    have h1 := climbL_len n (lvlO (op : Int) + 1) y l
    refine climbL_all n _ _ (by omega) (fun p hp => ?_)
    exact hf p (.tail _ (climbL_mem n _ _ _ p hp))
where climbL_mem : ∀ (n : Nat) (lv : Int) (x : Ex) (l : List Flat) (p : Flat), p ∈ (climbL n lv x l).2 → p ∈ l
  | 0, lv, x, l, p, h => h
  | n + 1, lv, x, [], p, h => h
  | n + 1, lv, x, (op, a, y) :: l, p, h => by
    simp only [climbL] at h
    split at h
    · exact h
    · exact .tail _ (climbL_mem n _ _ _ p (climbL_mem n _ _ _ p h))

/-! ### on tokens -/
/-- climbing: the operand has come, operators of at least a level are gone along -/
def loopE (u : List Tok → PR Ex) : Nat → Int → Ex → List Tok → PR Ex
  | 0, lv, x, r => .error (0, 0)
  | n + 1, lv, x, r => match opT (here r) with
    | none => .ok (x, r)
    | some op => if lvlO (op : Int) < lv then .ok (x, r) else match u r.tail with
      | .error f => .error f
      | .ok (y, r1) => match loopE u n (lvlO (op : Int) + 1) y r1 with
        | .error f => .error f
        | .ok (z, r2) => loopE u n lv (binE op (here r).at_ x z) r2
/-- an operand's reader goes on -/
def Goes (u : List Tok → PR Ex) : Prop := ∀ r x r', u r = .ok (x, r') → r'.length < r.length
theorem findO_lvl {s : List UInt8} {op : Nat} (h : findO s = some op) : 1 ≤ lvlO (op : Int) := by
  unfold findO at h
  have h1 := List.find?_some h
  have h2 := List.mem_of_find?_eq_some h
  simp only [List.mem_range] at h2
  simp only [Bool.and_eq_true] at h1
  have key : ∀ k : Nat, k < 19 → twoOp (k : Int) = true → 1 ≤ lvlO (k : Int) := by decide
  exact key op h2 h1.1
theorem opT_lvl {t : Tok} {op : Nat} (h : opT t = some op) : 1 ≤ lvlO (op : Int) := by
  unfold opT at h; split at h
  · exact findO_lvl h
  · cases h
theorem opT_ne {r : List Tok} {op : Nat} (h : opT (here r) = some op) : r ≠ [] := by
  rintro rfl; simp [opT, here, tok0] at h
theorem flatE_fuel (u : List Tok → PR Ex) (hu : Goes u) : ∀ (n m : Nat) (r : List Tok), r.length < n → r.length < m → flatE u n r = flatE u m r
  | 0, m, r, h, _ => by omega
  | n + 1, 0, r, _, h => by omega
  | n + 1, m + 1, r, h1, h2 => by
    simp only [flatE]
    cases hop : opT (here r) with
    | none => rfl
    | some op =>
      simp only
      cases hx : u r.tail with
      | error f => rfl
      | ok p =>
        obtain ⟨x, r1⟩ := p
        simp only
        have := hu _ _ _ hx
        have := tail_lt (opT_ne hop)
        rw [flatE_fuel u hu n m r1 (by omega) (by omega)]
theorem flatE_ok (u : List Tok → PR Ex) : ∀ (n : Nat) (r : List Tok) (l : List Flat) (r' : List Tok), flatE u n r = .ok (l, r') → FlatOk l
  | 0, r, l, r', h => by simp [flatE] at h
  | n + 1, r, l, r', h => by
    simp only [flatE] at h
    cases hop : opT (here r) with
    | none => rw [hop] at h; cases h; intro p hp; simp at hp
    | some op =>
      rw [hop] at h
      simp only at h
      cases hx : u r.tail with
      | error f => rw [hx] at h; cases h
      | ok p =>
        obtain ⟨x, r1⟩ := p
        rw [hx] at h
        simp only at h
        cases hf : flatE u n r1 with
        | error f => rw [hf] at h; cases h
        | ok q =>
          obtain ⟨l1, r2⟩ := q
          rw [hf] at h
          cases h
          intro p hp
          rcases List.mem_cons.1 hp with rfl | hp
          · exact opT_lvl hop
          · exact flatE_ok u n r1 l1 _ hf p hp
/-- climbing on tokens goes as climbing on what is cut -/
theorem loopE_flat (u : List Tok → PR Ex) (hu : Goes u) : ∀ (n : Nat) (lv : Int) (x : Ex) (r : List Tok), r.length < n →
    (∀ l rE, flatE u n r = .ok (l, rE) → ∃ r', loopE u n lv x r = .ok ((climbL n lv x l).1, r') ∧ r'.length ≤ r.length ∧ flatE u n r' = .ok ((climbL n lv x l).2, rE) ∧ l.length ≤ r.length) ∧
    (∀ f, flatE u n r = .error f → loopE u n lv x r = .error f ∨ ∃ x' r', loopE u n lv x r = .ok (x', r') ∧ r'.length ≤ r.length ∧ flatE u n r' = .error f ∧ ∃ op, opT (here r') = some op ∧ lvlO (op : Int) < lv)
  | 0, lv, x, r, h => by omega
  | n + 1, lv, x, r, h => by
    cases hop : opT (here r) with
    | none =>
      have e1 : flatE u (n + 1) r = .ok ([], r) := by simp only [flatE, hop]
      have e2 : loopE u (n + 1) lv x r = .ok (x, r) := by simp only [loopE, hop]
      refine ⟨fun l rE hl => ?_, fun f hf => by rw [e1] at hf; cases hf⟩
      rw [e1] at hl; cases hl
      exact ⟨r, e2, Nat.le_refl _, e1, Nat.zero_le _⟩
    | some op =>
      have hne := tail_lt (opT_ne hop)
      cases hx : u r.tail with
      | error f0 =>
        have e1 : flatE u (n + 1) r = .error f0 := by simp only [flatE, hop, hx]
        refine ⟨fun l rE hl => by (rw [e1] at hl; cases hl), fun f hf => ?_⟩
        rw [e1] at hf; cases hf
        by_cases hlv : lvlO (op : Int) < lv
        · right
          exact ⟨x, r, by simp only [loopE, hop, hlv, if_true], Nat.le_refl _, e1, op, hop, hlv⟩
        · left
          simp only [loopE, hop, hlv, if_false, hx]
      | ok p =>
        obtain ⟨y, r1⟩ := p
        have hr1 := hu _ _ _ hx
        have e1 : flatE u (n + 1) r = match flatE u n r1 with | .error f => .error f | .ok (l, r') => .ok ((op, (here r).at_, y) :: l, r') := by first | (simp only [flatE, hop, hx]; done) | (simp only [flatE, hop, hx]; rfl)
        by_cases hlv : lvlO (op : Int) < lv
        · have e2 : loopE u (n + 1) lv x r = .ok (x, r) := by simp only [loopE, hop, hlv, if_true]
          refine ⟨fun l rE hl => ?_, fun f hf => .inr ⟨x, r, e2, Nat.le_refl _, hf, op, hop, hlv⟩⟩
          have hl' := hl
          rw [e1] at hl'
          cases hf : flatE u n r1 with
          | error f => rw [hf] at hl'; cases hl'
          | ok q =>
            obtain ⟨l1, r2⟩ := q
            rw [hf] at hl'
            simp only [Except.ok.injEq, Prod.mk.injEq] at hl'
            obtain ⟨rfl, rfl⟩ := hl'
            have hlen := ((loopE_flat u hu n 0 x r1 (by omega)).1 l1 _ hf).choose_spec.2.2.2
            refine ⟨r, ?_, Nat.le_refl _, ?_, by simp only [List.length_cons]; omega⟩
            · simp only [climbL, hlv, if_true]; exact e2
            · simp only [climbL, hlv, if_true]; exact hl
        · have e2 : loopE u (n + 1) lv x r = match loopE u n (lvlO (op : Int) + 1) y r1 with | .error f => .error f | .ok (z, r2) => loopE u n lv (binE op (here r).at_ x z) r2 := by simp only [loopE, hop, hlv, if_false, hx]
          obtain ⟨ihA, ihB⟩ := loopE_flat u hu n (lvlO (op : Int) + 1) y r1 (by omega)
          refine ⟨fun l rE hl => ?_, fun f hf => ?_⟩
          · have hl' := hl
            rw [e1] at hl'
            cases hf : flatE u n r1 with
            | error f => rw [hf] at hl'; cases hl'
            | ok q =>
              obtain ⟨l1, r2⟩ := q
              rw [hf] at hl'
              simp only [Except.ok.injEq, Prod.mk.injEq] at hl'
              obtain ⟨rfl, rfl⟩ := hl'
              obtain ⟨r3, h1, h2, h3, h4⟩ := ihA l1 _ hf
              obtain ⟨r4, k1, k2, k3, k4⟩ := (loopE_flat u hu n lv (binE op (here r).at_ x (climbL n (lvlO (op : Int) + 1) y l1).1) r3 (by omega)).1 _ _ h3
              refine ⟨r4, ?_, by omega, ?_, by simp only [List.length_cons]; omega⟩
              · rw [e2, h1]
                simp only [climbL, hlv, if_false]
                exact k1
              · simp only [climbL, hlv, if_false]
                rw [flatE_fuel u hu (n + 1) n r4 (by omega) (by omega)]
                exact k3
          · rw [e1] at hf
            have hf' : flatE u n r1 = .error f := by
              cases hq : flatE u n r1 with
              | error g => rw [hq] at hf; cases hf; rfl
              | ok q => rw [hq] at hf; cases hf
            rcases ihB f hf' with h1 | ⟨x', r', h1, h2, h3, op', h4, h5⟩
            · left; rw [e2, h1]
            · rcases (loopE_flat u hu n lv (binE op (here r).at_ x x') r' (by omega)).2 f h3 with k1 | ⟨x2, r2, k1, k2, k3, k4⟩
              · left; rw [e2, h1]; exact k1
              · right
                refine ⟨x2, r2, by rw [e2, h1]; exact k1, by omega, ?_, k4⟩
                rw [flatE_fuel u hu (n + 1) n r2 (by omega) (by omega)]
                exact k3
/-- an expression, by climbing -/
def climbE (u : List Tok → PR Ex) (lv : Int) (r : List Tok) : PR Ex := match u r with
  | .error f => .error f
  | .ok (x, r1) => loopE u (r1.length + 1) lv x r1
theorem climbE_expr (u : List Tok → PR Ex) (hu : Goes u) (r : List Tok) : climbE u 1 r = exprW u r := by
  unfold climbE exprW
  cases hx : u r with
  | error f => rfl
  | ok p =>
    obtain ⟨x, r1⟩ := p
    simp only
    obtain ⟨hA, hB⟩ := loopE_flat u hu (r1.length + 1) 1 x r1 (by omega)
    cases hf : flatE u (r1.length + 1) r1 with
    | error f =>
      simp only
      rcases hB f hf with h | ⟨x', r', h1, h2, h3, op, h4, h5⟩
      · exact h
      · have := opT_lvl h4; omega
    | ok q =>
      obtain ⟨l, rE⟩ := q
      simp only
      obtain ⟨r', h1, h2, h3, h4⟩ := hA l rE hf
      have hok := flatE_ok u _ _ _ _ hf
      rw [climbL_all _ _ _ (by omega) hok] at h3
      have e : r' = rE := by
        simp only [flatE] at h3
        cases hop : opT (here r') with
        | none => rw [hop] at h3; simp at h3; exact h3
        | some op =>
          rw [hop] at h3
          simp only at h3
          cases hy : u r'.tail with
          | error f => rw [hy] at h3; cases h3
          | ok q2 =>
            obtain ⟨y, r2⟩ := q2
            rw [hy] at h3
            simp only at h3
            cases hq : flatE u r1.length r2 with
            | error f => rw [hq] at h3; cases h3
            | ok q3 => rw [hq] at h3; simp at h3
      rw [h1, e, shunt_climb l x hok, climbL_fuel _ (l.length + 1) 1 x l (by omega) (by omega)]
theorem loopE_fuel (u : List Tok → PR Ex) (hu : Goes u) (hL : ∀ n lv x r z r', loopE u n lv x r = .ok (z, r') → r'.length ≤ r.length) : ∀ (n m : Nat) (lv : Int) (x : Ex) (r : List Tok), r.length < n → r.length < m → loopE u n lv x r = loopE u m lv x r
  | 0, m, lv, x, r, h, _ => by omega
  | n + 1, 0, lv, x, r, _, h => by omega
  | n + 1, m + 1, lv, x, r, h1, h2 => by
    simp only [loopE]
    cases hop : opT (here r) with
    | none => rfl
    | some op =>
      simp only
      have := tail_lt (opT_ne hop)
      split
      · rfl
      · cases hx : u r.tail with
        | error f => rfl
        | ok p =>
          obtain ⟨y, r1⟩ := p
          simp only
          have := hu _ _ _ hx
          rw [loopE_fuel u hu hL n m (lvlO (op : Int) + 1) y r1 (by omega) (by omega)]
          cases hz : loopE u m (lvlO (op : Int) + 1) y r1 with
          | error f => rfl
          | ok q =>
            obtain ⟨z, r2⟩ := q
            simp only
            have := hL _ _ _ _ _ _ hz
            exact loopE_fuel u hu hL n m _ _ _ (by omega) (by omega)
theorem loopE_len (u : List Tok → PR Ex) (hu : Goes u) : ∀ (n : Nat) (lv : Int) (x : Ex) (r : List Tok) (z : Ex) (r' : List Tok), loopE u n lv x r = .ok (z, r') → r'.length ≤ r.length
  | 0, lv, x, r, z, r', h => by simp [loopE] at h
  | n + 1, lv, x, r, z, r', h => by
    simp only [loopE] at h
    cases hop : opT (here r) with
    | none => rw [hop] at h; cases h; exact Nat.le_refl _
    | some op =>
      rw [hop] at h
      simp only at h
      have := tail_lt (opT_ne hop)
      split at h
      · cases h; exact Nat.le_refl _
      · cases hx : u r.tail with
        | error f => rw [hx] at h; cases h
        | ok p =>
          obtain ⟨y, r1⟩ := p
          rw [hx] at h
          simp only at h
          have := hu _ _ _ hx
          cases hz : loopE u n (lvlO (op : Int) + 1) y r1 with
          | error f => rw [hz] at h; cases h
          | ok q =>
            obtain ⟨z1, r2⟩ := q
            rw [hz] at h
            simp only at h
            have := loopE_len u hu _ _ _ _ _ _ hz
            have := loopE_len u hu _ _ _ _ _ _ h
            omega
end ParS


/- Trees with each name and place turned: no program in sight. -/
namespace LexS
open Sx
section
variable (g : List UInt8 → List UInt8) (h : Int → Int)
end
variable {g : List UInt8 → List UInt8} {h : Int → Int}
end LexS


/- The names of a tree: no program in sight. -/
namespace LexS
open Sx
end LexS

