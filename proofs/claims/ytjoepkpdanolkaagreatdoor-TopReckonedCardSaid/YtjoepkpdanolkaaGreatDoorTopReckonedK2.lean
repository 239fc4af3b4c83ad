/- A part of the proof: contracts of functions and plain laws; each theorem says its own conditions. -/
import Derived.Recover
import Derived.Lib.Bytealg
import Derived.Test.YtjoepkpdanolkaaGreatDoorRows
import Derived.Test.YtjoepkpdanolkaaGreatDoorTopReckonedK1
import Derived.Test.YtjoepkpdanolkaaGreatDoorTopReckonedK0
set_option linter.unusedVariables false
set_option linter.unusedSimpArgs false
/- Calls that return or panic; what a caller hands on; a function that defers; a deferred closure that recovers. -/
namespace Sx
open Go Go.RowKit

/-- the panic of one value, not recovered -/
abbrev pch (v : Value) : List PanicEntry := [{ v := v, recovered := false }]
/-- the call returns, and 'Φ' holds; or it panics with a value, and 'Ψ' holds of it -/
def RetP (P : Program) (f : FuncId) (vals : List Value) (w : World) (Φ Ψ : Value → World → Prop) : Prop :=
  Calls P f vals.toArray w fun e w' => (∃ v, e = .returned v ∧ Φ v w') ∨ ∃ v, e = .panicked (pch v) ∧ Ψ v w'
section
variable {P : Program} {n : Fr} {L : List Oper} {Q : Exit → Act → World → Prop} {kn : Kn} {w w0 : World} {M : List Nat} {hs : List Res} {rest : List Oper}
variable {d ty : Nat} {pos : String} {aft : Array Edge} {g : Option (Nat × Bool)}
variable {N : Act → World → Prop}

/-- what is asked where a callee's panic goes on -/
abbrev PanQ (n : Fr) (Q : Exit → Act → World → Prop) (v : Value) (w : World) : Prop := ∀ a : Act, a.defers = n.2 → Q (.panic (pch v)) a w

theorem e_callp' {o : Oper} {f : FuncId} {vals : List Value} {Φ Ψ : Value → World → Prop} (hw : gd L kn o.guard = some true) (hd : okDst n o.dst = true)
    (hrun : ∀ a, K n kn a → (execOp a.eval o).run P w = .ok (.enter f vals.toArray) w)
    (c : RetP P f vals w Φ Ψ) (pan : ∀ v w', Ψ v w' → PanQ n Q v w') (next : ∀ v w', Φ v w' → vN n N (put o.dst v kn) w') : vS P n L Q o N kn w := by
  intro a ha
  rw [if_pos (ha.gd hw)]
  refine .inl ?_
  unfold Oper.wp
  rw [hrun a ha]
  refine Calls.mono c ?_
  rintro e w' (⟨v, rfl, hv⟩ | ⟨v, rfl, hv⟩)
  · exact next v w' hv _ (ha.put hd v)
  · exact pan v w' hv a ha.defers

theorem e_callp {f : FuncId} {args : Array Operand} {tys : Array TypeId} (vals : List Value) {Φ Ψ : Value → World → Prop} (hw : gd L kn g = some true) (hd : okDst n (some d) = true)
    (hcall : ∀ (az : Array Value) w, (callFunc f az).run P w = .ok (.enter f az) w)
    (hv : args.toList.map (evO kn) = vals.map some)
    (c : RetP P f vals w Φ Ψ) (pan : ∀ v w', Ψ v w' → PanQ n Q v w') (next : ∀ v w', Φ v w' → vN n N ((d, v) :: kn) w') :
    vS P n L Q ⟨some d, .call ⟨.value (.func f), args, tys⟩, ty, pos, aft, g⟩ N kn w :=
  e_callp' (f := f) (vals := vals) hw hd (fun a ha => by
    have hargs := evs_map ha hv
    simp only [execOp, resolve, hargs, Act.eval]
    simp [Deferred.ofValue, invoke, hcall]) c pan next

theorem e_callvp {f : FuncId} {x : Operand} {first captured : List Value} {args : Array Operand} {tys : Array TypeId} (vals : List Value) {Φ Ψ : Value → World → Prop} (hw : gd L kn g = some true) (hd : okDst n (some d) = true)
    (hx : evO kn x = some (.func (.func f) first.toArray captured.toArray))
    (hcall : ∀ (az : Array Value) w, (callFunc f az).run P w = .ok (.enter f az) w)
    (hv : args.toList.map (evO kn) = vals.map some)
    (c : RetP P f (first ++ vals ++ captured) w Φ Ψ) (pan : ∀ v w', Ψ v w' → PanQ n Q v w') (next : ∀ v w', Φ v w' → vN n N ((d, v) :: kn) w') :
    vS P n L Q ⟨some d, .call ⟨.value x, args, tys⟩, ty, pos, aft, g⟩ N kn w :=
  e_callp' (f := f) (vals := first ++ vals ++ captured) hw hd (fun a ha => by
    have hargs := evs_map ha hv
    simp only [execOp, resolve, hargs, ha.ev hx]
    simp [Deferred.ofValue, invoke, hcall]) c pan next

/-- the function's own panic -/
theorem e_panic {o : Oper} {v : Value} (hw : gd L kn o.guard = some true) (hrun : ∀ a, K n kn a → (execOp a.eval o).run P w = .halt (.panic v) w) (pan : PanQ n Q v w) : vS P n L Q o N kn w := by
  intro a ha
  rw [if_pos (ha.gd hw)]
  refine .inl ?_
  unfold Oper.wp
  rw [hrun a ha]
  exact pan a ha.defers
theorem e_panicI {x : Operand} {T : Nat} {v : Value} (hw : gd L kn g = some true) (hx : evO kn x = some (.iface T v)) (pan : PanQ n Q (.iface T v) w) {dst : Option Nat} : vS P n L Q ⟨dst, .panic x, ty, pos, aft, g⟩ N kn w :=
  e_panic hw (fun a ha => by simp only [execOp, ha.ev hx]; simp [Instr.panic, goPanic, Sem.run]; try rfl) pan

theorem retp_of {m : Nat} {f : FuncId} {fn : Func} {c : Code} (vals : List Value) {Φ Ψ : Value → World → Prop} (hf : P.funcs[f]? = some fn) (hb : fn.body = some c) (hn : fn.ntmps = m) (hle : Nat.ble vals.length m = true)
    (h : vcC P (m, []) c (bodyPost P fn fun e w' => (∃ v, e = .returned v ∧ Φ v w') ∨ ∃ v, e = .panicked (pch v) ∧ Ψ v w') (enumKn 0 vals) w) : RetP P f vals w Φ Ψ := vc_enter hf hb hn hle h

theorem y_mki {T : Nat} {x : Operand} {v : Value} {fs : Array Field} (hx : evO kn x = some v) (ht : P.underlying T = some (.struct fs)) : Y P n kn w ⟨some d, .makeInterface T x, ty, pos, aft, g⟩ (.iface T v) := fun a ha => by
  simp only [execOp, ha.ev hx]
  simp [Instr.makeInterface, run_underlying ht]
/-! ### functions that defer -/
/-- 'defer': the call is put ahead of those that wait -/
theorem e_defer {o : Oper} {D : Deferred} {m : Nat} {ds : List Deferred} (hn : n = (m, ds)) (hw : gd L kn o.guard = some true) (hd : o.dst = none)
    (hrun : ∀ a, K n kn a → (execOp a.eval o).run P w = .ok (.defer D) w) (next : vN (m, D :: ds) N kn w) : vS P n L Q o N kn w := by
  subst hn
  intro a ha
  rw [if_pos (ha.gd hw)]
  refine .inl ?_
  unfold Oper.wp
  rw [hrun a ha]
  have h := next { a with defers := D :: a.defers } ⟨by simp [ha.defers], ha.size, fun t v ht => ha.get t v ht⟩
  simpa [Oper.upon, Act.put, hd] using h

theorem vcd_enter {m : Nat} {f : FuncId} {fn : Func} {c : Code} {vals : List Value} {R : Ending → World → Prop} (hf : P.funcs[f]? = some fn) (hb : fn.body = some c) (hn : fn.ntmps = m) (hle : Nat.ble vals.length m = true)
    (h : vcC P (m, []) c (bodyPostD P fn R) (enumKn 0 vals) w) : Calls P f vals.toArray w R := by
  refine calls_of_wp_defers hf hb (h _ ?_)
  have hle' : vals.length ≤ m := by simpa [Nat.ble_eq] using hle
  refine ⟨rfl, ?_, ?_⟩
  · simp only [Array.size_append, List.size_toArray, Array.size_replicate, hn]; omega
  · intro t v ht
    obtain ⟨h1, h2⟩ := find_enumKn vals 0 t v ht
    have hlt : t < vals.length := by
      simp only [Nat.sub_zero] at h2
      exact (List.getElem?_eq_some_iff.1 h2).1
    simp only [Nat.sub_zero] at h2
    rw [Array.getElem?_append_left (by simpa using hlt)]
    simpa using h2

/-- a deferred call that leaves the panic as it is and returns, and 'Φ' holds of the memory behind it -/
def DefIdle (P : Program) (f : FuncId) (args : Array Value) (w : World) (Φ : World → Prop) : Prop :=
  CallsD P f args .returning w fun e u' w' => (∃ v, e = .returned v) ∧ u' = .returning ∧ Φ w'
/-- a deferred call that recovers the panic -/
def DefCatch (P : Program) (f : FuncId) (args : Array Value) (v : Value) (w : World) (Φ : World → Prop) : Prop :=
  CallsD P f args (.panicking (pch v)) w fun e u' w' => (∃ v, e = .returned v) ∧ u' = .panicking [{ v := v, recovered := true }] ∧ Φ w'

/-- leaving with one deferred closure, without a panic -/
theorem vqd_ret {m : Nat} {fn : Func} {R : Ending → World → Prop} {e : Exit} {f : FuncId} {cap : List Value} {Φ : World → Prop} (he : e = .ret ∨ e = .normal)
    (hcall : ∀ (az : Array Value) w, (callFunc f az).run P w = .ok (.enter f az) w)
    (h : DefIdle P f cap.toArray w Φ) (hres : ∀ w', Φ w' → ∃ v, (∀ a, K (m, [⟨.fn (.func f) cap.toArray, #[]⟩]) kn a → (results fn a.tmps).run P w' = .ok v w') ∧ R (.returned v) w') :
    vcQ (m, [⟨.fn (.func f) cap.toArray, #[]⟩]) (bodyPostD P fn R) e kn w := by
  intro a ha
  have key : Leaves P fn a.tmps R a.defers .returning w := by
    rw [ha.defers]
    refine leaves_cons (f := f) (args := cap.toArray) (by simp) (by simp [invoke, hcall]) (h.mono ?_)
    rintro e u' w' ⟨⟨v, rfl⟩, rfl, hΦ⟩
    obtain ⟨r, h1, h2⟩ := hres w' hΦ
    exact ⟨r, h1 a ha, h2⟩
  rcases he with rfl | rfl <;> exact key
/-! ### a map whose entries are known -/
abbrev entF (kvs : List (Wd × Value)) : List MapEntry := kvs.zipIdx.map fun p => { key := str p.1.1, val := p.1.2, born := p.2 }
abbrev mapF (kvs : List (Wd × Value)) : Obj := .map (entF kvs).toArray kvs.length
def getF : List (Wd × Value) → Wd → Option Value
  | [], _ => none
  | (k, v) :: r, s => if s = k then some v else getF r s
theorem findNow_F (s : Wd) : ∀ (kvs : List (Wd × Value)) (j i : Nat), ∃ m, Instr.findNow .string (str s) ((kvs.zipIdx j).map fun p => ({ key := str p.1.1, val := p.1.2, born := p.2 } : MapEntry)) i = some ((getF kvs s).map fun v => (m, v))
  | [], j, i => ⟨0, rfl⟩
  | (k, v) :: r, j, i => by
    by_cases hk : s = k
    · subst hk
      exact ⟨i, by simp [Instr.findNow, Instr.sameNow, bytes_beq, getF]⟩
    · obtain ⟨m, hm⟩ := findNow_F s r (j + 1) (i + 1)
      refine ⟨m, ?_⟩
      simp only [List.zipIdx_cons, List.map_cons, Instr.findNow, Instr.sameNow, bytes_beq, hk, decide_false, getF, if_false]
      exact hm
theorem e_mkF (st : St w0 M hs w) {T : Nat} (hw : gd L kn g = some true) (hd : okDst n (some d) = true)
    (next : ∀ b w', w0.heap.size ≤ b → St w0 M (.blk b (mapF []) :: hs) w' → vN n N ((d, .map (some b)) :: kn) w') : vS P n L Q (⟨some d, .makeMap T none, ty, pos, aft, g⟩) N kn w :=
  e_run (v := .map (some w.heap.size)) (w' := w.alloc (.map #[] 0)) hw hd (fun a ha => by
    simp only [execOp, Option.map_none]; rfl) (next _ _ st.chg.size (st.pushR (Chg.alloc w _) (heap_alloc w _) (by simp [Res.at?])))
theorem e_muF (st : St w0 M hs w) (i : Nat) {T k e b : Nat} {x y z : Operand} {s : Wd} {v : Value} {kvs : List (Wd × Value)} (hw : gd L kn g = some true) (hx : evO kn x = some (.map (some b))) (hy : evO kn y = some (str s)) (hv : evO kn z = some v)
    (hi : nth hs i = some (.blk b (mapF kvs))) (hm : b ∈ M ∨ w0.heap.size ≤ b) (ht : P.underlying T = some (.map k e)) (hk : P.underlying k = some .string) (hno : getF kvs s = none)
    (next : ∀ w', St w0 M (setNth hs i (.blk b (mapF (kvs ++ [(s, v)])))) w' → vN n N kn w') : vS P n L Q (⟨none, .mapUpdate T x y z, ty, pos, aft, g⟩) N kn w := by
  have hb : w.heap[b]? = some (mapF kvs) := st.res hi
  obtain ⟨m, hf⟩ := findNow_F s kvs 0 0
  rw [hno] at hf
  simp only [Option.map_none] at hf
  obtain ⟨q1, q2, q3⟩ := setObj_chg (P := P) (o' := mapF (kvs ++ [(s, v)])) hb (by simp)
  have hent : (entF kvs).toArray.push { key := str s, val := v, born := kvs.length } = (entF (kvs ++ [(s, v)])).toArray := by
    simp [entF, List.zipIdx_append]
  refine e_do (w' := ChangeMaps.setBlock w b (mapF (kvs ++ [(s, v)]))) hw rfl (fun a ha => ?_) (next _ (st.turn hi rfl rfl q2 hm q3))
  have hfk := findKey_str (P := P) hk hf w
  have hrun : (Instr.mapUpdate T (.map (some b)) (str s) v).run P w = .ok () (ChangeMaps.setBlock w b (mapF (kvs ++ [(s, v)]))) := by
    have e1 : (kvs ++ [(s, v)]).length = kvs.length + 1 := by simp
    simp only [mapF, ← hent, e1] at q1 ⊢
    simp [Instr.mapUpdate, getObj, Sem.run_bind, underlying, Sem.run, ht, hb, Result.andThen, checkKey_str hk, hfk]
    simpa using q1
  simp only [execOp, ha.ev hx, ha.ev hy, ha.ev hv, Sem.run_bind, hrun, Result.andThen_ok]; rfl
theorem e_inF (st : St w0 M hs w) (i : Nat) {T k e b : Nat} {x y z : Operand} {s : Wd} {v : Value} {kvs : List (Wd × Value)} (hw : gd L kn g = some true) (hx : evO kn x = some (.map (some b))) (hy : evO kn y = some (str s)) (hv : evO kn z = some v)
    (hi : nth hs i = some (.blk b (mapF kvs))) (hm : b ∈ M ∨ w0.heap.size ≤ b) (ht : P.underlying T = some (.map k e)) (hk : P.underlying k = some .string) (hno : getF kvs s = none)
    (next : ∀ w', St w0 M (setNth hs i (.blk b (mapF (kvs ++ [(s, v)])))) w' → vN n N kn w') : vS P n L Q (⟨none, .insert T x y z, ty, pos, aft, g⟩) N kn w := by
  have hb : w.heap[b]? = some (mapF kvs) := st.res hi
  obtain ⟨m, hf⟩ := findNow_F s kvs 0 0
  rw [hno] at hf
  simp only [Option.map_none] at hf
  obtain ⟨q1, q2, q3⟩ := setObj_chg (P := P) (o' := mapF (kvs ++ [(s, v)])) hb (by simp)
  have hent : (entF kvs).toArray.push { key := str s, val := v, born := kvs.length } = (entF (kvs ++ [(s, v)])).toArray := by
    simp [entF, List.zipIdx_append]
  refine e_do (w' := ChangeMaps.setBlock w b (mapF (kvs ++ [(s, v)]))) hw rfl (fun a ha => ?_) (next _ (st.turn hi rfl rfl q2 hm q3))
  have hfk := findKey_str (P := P) hk hf w
  have hrun : (Instr.mapUpdate T (.map (some b)) (str s) v).run P w = .ok () (ChangeMaps.setBlock w b (mapF (kvs ++ [(s, v)]))) := by
    have e1 : (kvs ++ [(s, v)]).length = kvs.length + 1 := by simp
    simp only [mapF, ← hent, e1] at q1 ⊢
    simp [Instr.mapUpdate, getObj, Sem.run_bind, underlying, Sem.run, ht, hb, Result.andThen, checkKey_str hk, hfk]
    simpa using q1
  simp only [execOp, ha.ev hx, ha.ev hy, ha.ev hv, Sem.run_bind, hrun, Result.andThen_ok]; rfl
/-- v, ok := m[s] -/
theorem e_lkF (st : St w0 M hs w) (i : Nat) {T k e b : Nat} {x y : Operand} {s : Wd} {z : Value} {kvs : List (Wd × Value)} (hw : gd L kn g = some true) (hd : okDst n (some d) = true) (hx : evO kn x = some (.map (some b))) (hy : evO kn y = some (str s))
    (hi : nth hs i = some (.blk b (mapF kvs))) (ht : P.underlying T = some (.map k e)) (hk : P.underlying k = some .string) (hz : ∀ w, (zeroValue e).run P w = .ok z w)
    (next : vN n N ((d, .tuple [(getF kvs s).getD z, .bool (getF kvs s).isSome].toArray) :: kn) w) : vS P n L Q (⟨some d, .lookup T x y true, ty, pos, aft, g⟩) N kn w := by
  have hb : w.heap[b]? = some (mapF kvs) := st.res hi
  obtain ⟨m, hf⟩ := findNow_F s kvs 0 0
  refine e_run (v := .tuple [(getF kvs s).getD z, .bool (getF kvs s).isSome].toArray) (w' := w) hw hd (fun a ha => ?_) next
  have hfk := findKey_str (P := P) hk hf w
  have hrun : (Instr.lookup T (.map (some b)) (str s) true).run P w = .ok (.tuple [(getF kvs s).getD z, .bool (getF kvs s).isSome].toArray) w := by
    cases hg : getF kvs s with
    | none =>
      rw [hg] at hfk
      simp [Instr.lookup, getObj, Sem.run_bind, underlying, Sem.run, ht, hb, Result.andThen, checkKey_str hk, hfk, hz]
    | some u =>
      rw [hg] at hfk
      simp [Instr.lookup, getObj, Sem.run_bind, underlying, Sem.run, ht, hb, Result.andThen, checkKey_str hk, hfk]
  simp only [execOp, ha.ev hx, ha.ev hy, Sem.run_bind, hrun, Result.andThen_ok]; rfl
end
end Sx


/- A function that defers a closure that recovers. -/
namespace Sx
open Go Go.RowKit
section
variable {P : Program} {n : Fr} {L : List Oper} {Q : Exit → Act → World → Prop} {kn : Kn} {w w0 : World} {M : List Nat} {hs : List Res} {rest : List Oper}
variable {d ty : Nat} {pos : String} {aft : Array Edge} {g : Option (Nat × Bool)}
variable {N : Act → World → Prop}
/-- where a callee's panic goes on, the frame known -/
abbrev PanK (n : Fr) (kn : Kn) (Q : Exit → Act → World → Prop) (v : Value) (w : World) : Prop := ∀ a : Act, K n kn a → Q (.panic (pch v)) a w
theorem e_callk {f : FuncId} {args : Array Operand} {tys : Array TypeId} (vals : List Value) {Φ Ψ : Value → World → Prop} (hw : gd L kn g = some true) (hd : okDst n (some d) = true)
    (hcall : ∀ (az : Array Value) w, (callFunc f az).run P w = .ok (.enter f az) w)
    (hv : args.toList.map (evO kn) = vals.map some)
    (c : RetP P f vals w Φ Ψ) (pan : ∀ v w', Ψ v w' → PanK n kn Q v w') (next : ∀ v w', Φ v w' → vN n N ((d, v) :: kn) w') :
    vS P n L Q ⟨some d, .call ⟨.value (.func f), args, tys⟩, ty, pos, aft, g⟩ N kn w := by
  intro a ha
  rw [if_pos (ha.gd hw)]
  refine .inl ?_
  unfold Oper.wp
  have hrun : (execOp a.eval ⟨some d, .call ⟨.value (.func f), args, tys⟩, ty, pos, aft, g⟩).run P w = .ok (.enter f vals.toArray) w := by
    have hargs := evs_map ha hv
    simp only [execOp, resolve, hargs, Act.eval]
    simp [Deferred.ofValue, invoke, hcall]
  rw [hrun]
  refine Calls.mono c ?_
  rintro e w' (⟨v, rfl, hv⟩ | ⟨v, rfl, hv⟩)
  · exact next v w' hv _ (ha.put hd v)
  · exact pan v w' hv a ha
/-- 'defer' of a closure -/
theorem e_deferV {x : Operand} {f : FuncId} {cap : List Value} {tys : Array TypeId} {m : Nat} {ds : List Deferred} (hn : n = (m, ds)) (hw : gd L kn g = some true)
    (hx : evO kn x = some (.func (.func f) #[] cap.toArray)) (next : vN (m, ⟨.fn (.func f) cap.toArray, #[]⟩ :: ds) N kn w) :
    vS P n L Q ⟨none, .defer ⟨.value x, #[], tys⟩, ty, pos, aft, g⟩ N kn w :=
  e_defer hn hw rfl (fun a ha => by
    simp only [execOp, resolve, ha.ev hx]
    simp [Deferred.ofValue]) next
theorem vqd_post {m : Nat} {fn : Func} {R : Ending → World → Prop} {e : Exit} {v : Value} (he : e = .ret ∨ e = .normal) (hr : ∀ a, K (m, []) kn a → (results fn a.tmps).run P w = .ok v w) (hR : R (.returned v) w) : vcQ (m, []) (bodyPostD P fn R) e kn w := by
  intro a ha
  have key : Leaves P fn a.tmps R a.defers .returning w := by rw [ha.defers]; exact ⟨v, hr a ha, hR⟩
  rcases he with rfl | rfl <;> exact key
theorem results3 {fn : Func} {r1 r2 r3 : ResultVar} {v1 v2 v3 : Value} {m : Nat} {ds : List Deferred} (st : St w0 M hs w) (hf : fn.results = #[r1, r2, r3]) (h1 : ResV P hs kn r1 v1) (h2 : ResV P hs kn r2 v2) (h3 : ResV P hs kn r3 v3) :
    ∀ a, K (m, ds) kn a → (results fn a.tmps).run P w = .ok (.tuple #[v1, v2, v3]) w := fun a ha => by
  simp [results_eq, hf, h1.run st ha, h2.run st ha, h3.run st ha]
theorem retd_of {m : Nat} {f : FuncId} {fn : Func} {c : Code} (vals : List Value) {Φ : Value → World → Prop} (hf : P.funcs[f]? = some fn) (hb : fn.body = some c) (hn : fn.ntmps = m) (hle : Nat.ble vals.length m = true)
    (h : vcC P (m, []) c (bodyPostD P fn fun e w' => ∃ v, e = .returned v ∧ Φ v w') (enumKn 0 vals) w) : Ret P f vals w Φ := vcd_enter hf hb hn hle h
/-- a panic's end, where a deferred closure recovers -/
theorem pan_leave {m : Nat} {fn : Func} {R : Ending → World → Prop} {f : FuncId} {cap : List Value} {v : Value} {Φ : World → Prop}
    (hcall : ∀ (az : Array Value) w, (callFunc f az).run P w = .ok (.enter f az) w)
    (h : DefCatch P f cap.toArray v w Φ) (hres : ∀ w', Φ w' → ∃ r, (∀ a, K (m, [⟨.fn (.func f) cap.toArray, #[]⟩]) kn a → (results fn a.tmps).run P w' = .ok r w') ∧ R (.returned r) w') :
    PanK (m, [⟨.fn (.func f) cap.toArray, #[]⟩]) kn (bodyPostD P fn R) v w := by
  intro a ha
  show Leaves P fn a.tmps R a.defers (.panicking (pch v)) w
  rw [ha.defers]
  refine leaves_cons (f := f) (args := cap.toArray) (by simp) (by simp [invoke, hcall]) (h.mono ?_)
  rintro e u' w' ⟨⟨x, rfl⟩, rfl, hΦ⟩
  obtain ⟨r, h1, h2⟩ := hres w' hΦ
  exact ⟨r, h1 a ha, h2⟩
theorem e_bxn (st : St w0 M hs w) {x : Operand} {T : Nat} {v : Value} {l : List Value} (hw : gd L kn g = some true) (hd : okDst n (some d) = true)
    (hx : evO kn x = some v) (hl : v.cells.toList = l)
    (next : ∀ b w', b = w.heap.size → w0.heap.size ≤ b → St w0 M (.blk b (.cells l.toArray T (0, 0)) :: hs) w' → vN n N ((d, .pointer (some ⟨b, 0, none⟩)) :: kn) w') : vS P n L Q (⟨some d, .box T x, ty, pos, aft, g⟩) N kn w :=
  e_new st (v := .pointer (some ⟨w.heap.size, 0, none⟩)) (l := l) (E := T) hw hd (fun a ha => by
    have : v.cells = l.toArray := by rw [← hl]
    simp only [execOp, ha.ev hx, Instr.box, ← this]
    rfl) (fun b w' e hb st' => by subst e; exact next _ w' rfl hb st')
theorem y_ta {x : Operand} {T U : Nat} {v : Value} {fs : Array Field} (hx : evO kn x = some (.iface T v)) (ht : P.underlying T = some (.struct fs)) : Y P n kn w ⟨some d, .typeAssert x U T false, ty, pos, aft, g⟩ v := fun a ha => by
  simp only [execOp, ha.ev hx]
  simp [Instr.typeAssert, run_underlying ht]
/-- a field that is a struct, of a struct that is a value -/
theorem y_fldA {T i off sz : Nat} {x : Operand} {cs vs : List Value} {fs : Array Field} {f : Field} (hx : evO kn x = some (.agg cs.toArray)) (ht : P.underlying T = some (.struct fs)) (hf : nth fs.toList i = some f) (ho : f.offset = off)
    (ha : ∀ w, (Go.isAgg f.type).run P w = .ok true w) (hs : ∀ w, (Go.sizeOf f.type).run P w = .ok sz w) (hv : takeN sz (dropN cs off) = some vs) : Y P n kn w ⟨some d, .field T x i, ty, pos, aft, g⟩ (.agg vs.toArray) := fun a hk => by
  subst ho
  rw [nth_eq] at hf
  have hf' : fs[i]? = some f := by simpa using hf
  simp only [execOp, hk.ev hx]
  simp [Instr.field, run_underlying ht, hf', asAgg, run_partA ha hs hv]
end
/-- a deferred closure's post does not look at the temporaries of a panic -/
theorem okQ_bodyS {P : Program} {fn : Func} {c0 : Frame} {cs cs' : List Frame} {R : Ending → FrameMode → World → Prop} : okQ (fun e a w => bodyPostS P fn c0 cs R e a cs' w) := fun c a a' w h hq => by
  obtain ⟨h1, h2⟩ := hq
  exact ⟨h ▸ h1, h2⟩
end Sx
namespace Sx
open Go Go.RowKit
theorem St.of3 {w : World} {b c e : Nat} {o p q : Obj} (M : List Nat) (h : w.heap[b]? = some o) (h' : w.heap[c]? = some p) (h'' : w.heap[e]? = some q) (h1 : b ≠ c) (h2 : b ≠ e) (h3 : c ≠ e) : St w M [.blk b o, .blk c p, .blk e q] w :=
  ⟨Chg.refl M w, List.pairwise_cons.2 ⟨by simp [Res.at?, h1, h2], List.pairwise_cons.2 ⟨by simp [Res.at?, h3], List.pairwise_singleton _ _⟩⟩, by simp [Res.holds, h, h', h'']⟩
/-- the frame of a deferred closure, as far as it is known -/
theorem K.of {m : Nat} {kn : Kn} {t : Array Value} (hs : t.size = m) (h : ∀ i v, find kn i = some v → t[i]? = some v) : K (m, []) kn { tmps := t, defers := [] } := ⟨rfl, hs, h⟩
theorem wp_of_vc {P : Program} {n : Fr} {c : Code} {Q : Exit → Act → World → Prop} {kn : Kn} {a : Act} {w : World} (ha : K n kn a) (h : vcC P n c Q kn w) : c.wp P Q a w := h a ha
/-- a region none of whose operations ends in a panic -/
def noPan (Q : Exit → Act → World → Prop) : Exit → Act → World → Prop := fun e a w => (match e with | .panic _ => False | _ => True) ∧ Q e a w
theorem okQ_noPan {Q : Exit → Act → World → Prop} : okQ (noPan Q) := fun _ _ _ _ _ hq => hq.1.elim
theorem vc_noPan {P : Program} {n : Fr} {c : Code} {Q : Exit → Act → World → Prop} {kn : Kn} {w : World} (h : vcC P n c (noPan Q) kn w) : vcC P n c Q kn w := fun a ha => Code.wp_mono (fun _ _ _ h => h.2) (h a ha)
theorem vq_noPan {n : Fr} {Q : Exit → Act → World → Prop} {kn : Kn} {w : World} (h : vcQ n Q .normal kn w) : vcQ n (noPan Q) .normal kn w := fun a ha => ⟨trivial, h a ha⟩
end Sx


/- Short names for the regions that are drawn. -/
namespace Sx
open Go Go.RowKit
abbrev Yt (n : Nat) : Nat × Bool := (n, true)
abbrev Nt (n : Nat) : Nat × Bool := (n, false)
section
variable {P : Program} {n : Fr} {L : List Oper} {Q : Exit → Act → World → Prop} {kn : Kn} {w w0 : World} {M : List Nat} {hs' : List Res} {id : Nat}
theorem vdr (hm : P.follows .mixedOrders = true) (plan : List (Nat × Bool)) (hs : List Res) (st : St w0 M hs' w) (h : ∀ w', St w0 M hs' w' → St w0 M hs w' → vP P n L Q (fun w => St w0 M hs w) plan kn w')
    (hsub : hs.Sublist hs' := by repeat (first | exact sl0 | apply sl1 | apply sl2)) (hsel : Region.noSelect L.toArray = true := by kernel_rfl) (hQ : okQ Q := by repeat (first | exact okQ_noPan | exact okQ_body | exact okQ_bodyS | refine okQ_then ?_ | refine okQ_block ?_)) (hlen : plan.length = L.length := by exact rfl) (hplan : planD L.toArray plan (Array.replicate L.length false) = true := by kernel_rfl) :
    vcC P n (.region id L.toArray true) Q kn w := vc_draw hm plan _ (st.drop hsub) hsel hQ hlen hplan fun w' c => h w' (st.call0 c) ((st.call0 c).drop hsub)
theorem vdr0 (hm : P.follows .mixedOrders = true) (plan : List (Nat × Bool)) (st : St w0 M hs' w) (h : ∀ w', St w0 M hs' w' → St w0 M hs' w' → vP P n L Q (fun w => St w0 M hs' w) plan kn w')
    (hsel : Region.noSelect L.toArray = true := by kernel_rfl) (hQ : okQ Q := by repeat (first | exact okQ_noPan | exact okQ_body | exact okQ_bodyS | refine okQ_then ?_ | refine okQ_block ?_)) (hlen : plan.length = L.length := by exact rfl) (hplan : planD L.toArray plan (Array.replicate L.length false) = true := by kernel_rfl) :
    vcC P n (.region id L.toArray true) Q kn w := vc_draw hm plan _ st hsel hQ hlen hplan fun w' c => h w' (st.call0 c) (st.call0 c)
theorem ddr (hm : P.follows .mixedOrders = true) (plan : Pl) (hs : List Res) (st : St w0 M hs' w) (h : ∀ w', St w0 M hs' w' → St w0 M hs w' → vD P n L Q (fun w => St w0 M hs w) plan kn w')
    (hsub : hs.Sublist hs' := by repeat (first | exact sl0 | apply sl1 | apply sl2)) (hsel : Region.noSelect L.toArray = true := by kernel_rfl) (hQ : okQ Q := by repeat (first | exact okQ_noPan | exact okQ_body | exact okQ_bodyS | refine okQ_then ?_ | refine okQ_block ?_)) (hlen : plan.len = L.length := by exact rfl) (hplan : plOK L.toArray plan (Array.replicate L.length false) = true := by kernel_rfl) :
    vcC P n (.region id L.toArray true) Q kn w := vd_draw hm plan _ (st.drop hsub) hsel hQ hlen hplan fun w' c => h w' (st.call0 c) ((st.call0 c).drop hsub)
theorem ddr0 (hm : P.follows .mixedOrders = true) (plan : Pl) (st : St w0 M hs' w) (h : ∀ w', St w0 M hs' w' → St w0 M hs' w' → vD P n L Q (fun w => St w0 M hs' w) plan kn w')
    (hsel : Region.noSelect L.toArray = true := by kernel_rfl) (hQ : okQ Q := by repeat (first | exact okQ_noPan | exact okQ_body | exact okQ_bodyS | refine okQ_then ?_ | refine okQ_block ?_)) (hlen : plan.len = L.length := by exact rfl) (hplan : plOK L.toArray plan (Array.replicate L.length false) = true := by kernel_rfl) :
    vcC P n (.region id L.toArray true) Q kn w := vd_draw hm plan _ st hsel hQ hlen hplan fun w' c => h w' (st.call0 c) (st.call0 c)
theorem kdr (hm : P.follows .mixedOrders = true) (plan : List (Nat × Bool)) (s : Nat) (hs : List Res) (st : St w0 M hs' w) (h : ∀ w', St w0 M hs' w' → St w0 M hs w' → vK P n L Q s (fun w => St w0 M hs w) false plan kn w')
    (hsub : hs.Sublist hs' := by repeat (first | exact sl0 | apply sl1 | apply sl2)) (hsel : Region.noSelect L.toArray = true := by kernel_rfl) (hQ : okQ Q := by repeat (first | exact okQ_noPan | exact okQ_body | exact okQ_bodyS | refine okQ_then ?_ | refine okQ_block ?_)) (hlen : plan.length = L.length := by exact rfl) (hplan : planD L.toArray plan (Array.replicate L.length false) = true := by kernel_rfl) (hss : Nat.blt s L.length = true := by exact rfl) :
    vcC P n (.region id L.toArray true) Q kn w := vk_draw hm plan s _ (st.drop hsub) hsel hQ hlen hplan hss fun w' c => h w' (st.call0 c) ((st.call0 c).drop hsub)
end
section
variable {w0 w : World} {M : List Nat} {hs : List Res} {P : Program} {n : Fr} {kn : Kn} {d ty : Nat} {pos : String} {aft : Array Edge} {g : Option (Nat × Bool)}
theorem ybd {T : Nat} {parts : Array (Nat × Operand)} (r : Value) (vals : List (Nat × Value)) (hv : parts.toList.map (fun p => (evO kn p.2).map (p.1, ·)) = vals.map some := by exact rfl)
    (hrun : ∀ w, (Instr.build T vals.toArray).run P w = .ok r w := by intro w; simp [Instr.build, go_sem] <;> repeat' constructor) : Y P n kn w ⟨some d, .build T parts, ty, pos, aft, g⟩ r := y_bld r vals hv hrun
theorem yin (z : Int) {x y : Operand} {a b : Int} {T U : Nat} (hx : evO kn x = some (.int .i64 a) := by exact rfl) (hy : evO kn y = some (.int .i64 b) := by exact rfl) (hv : a + b = z := by omega) (lo : -9223372036854775808 ≤ z := by omega) (hi : z ≤ 9223372036854775807 := by omega) : Y P n kn w ⟨some d, .binOp .add T x y U, ty, pos, aft, g⟩ (.int .i64 z) := y_add hx hy hv lo hi
theorem vr1 {m : Nat} {fn : Func} {r1 : ResultVar} {v1 : Value} {e : Exit} {Φ : Value → World → Prop} (st : St w0 M hs w) (hf : fn.results = #[r1]) (hR : Φ v1 w) (h1 : ResV P hs kn r1 v1 := by exact .tmp rfl) (he : e = .ret ∨ e = .normal := by first | exact .inl rfl | exact .inr rfl) :
    vcQ (m, []) (bodyPost P fn fun e w => ∃ v, e = .returned v ∧ Φ v w) e kn w := vq_ret1 st he hf h1 ⟨_, rfl, hR⟩
theorem St.rs (st : St w0 M hs w) (i : Nat) {r : Res} (h : nth hs i = some r := by exact rfl) : r.holds w0.heap.size w := st.res h
theorem St.sm {S : Nat → Prop} (st : St w0 [] hs w) : Same S w0 w := Same.of_nil st.chg
end
end Sx


/- Runs of steps that need no data: so many of them at once. -/
namespace Sx
open Go Go.RowKit
section
variable {P : Program} {n : Fr} {L : List Oper} {Q : Exit → Act → World → Prop} {kn : Kn} {w : World} {ops : List Oper} {c : Code}
theorem gL (h : vcL P n L Q ops kn w) : vcL P n L Q ops kn w := h
theorem gC (h : vcC P n c Q kn w) : vcC P n c Q kn w := h
end
section
variable {G G' : Prop}
theorem a1 (h : G') (s : G' → G := by intro h; (iterate 1 (first | with_reducible (first | refine vc_seq ?_ | refine vc_region ?_ | refine vq_then ?_ | refine vc_end ?_ | refine vc_code_skip ?_ | refine vc_block ?_ | refine vq_block ?_ | refine vc_ret ?_ | refine vq_then_ret ?_ | refine vq_block_ret ?_ | refine vc_exit ?_ | refine vq_then_exit ?_ | refine vq_block_exit ?_) | (with_reducible refine gL ?_); (first | refine ym ?_ | refine ya ?_ | refine ypt ?_ | refine ypf ?_ | refine vsk ?_ | refine ynk ?_ | refine vy (y_not rfl) ?_ | refine vy (y_eqi rfl rfl) ?_ | refine vy (y_nei rfl rfl) ?_ | refine vy (y_lss rfl rfl) ?_ | refine vy (y_leq rfl rfl) ?_ | refine vy (y_gtr rfl rfl) ?_ | refine vy (y_geq rfl rfl) ?_ | refine vy (y_eqs rfl rfl) ?_ | refine vy (y_nes rfl rfl) ?_ | refine vy (y_ext rfl rfl) ?_) | (with_reducible refine gC ?_); (first | refine vc_ift rfl ?_ | refine vc_iff rfl ?_) | refine vq_block_other rfl ?_)); exact h) : G := s h
theorem a2 (h : G') (s : G' → G := by intro h; (iterate 2 (first | with_reducible (first | refine vc_seq ?_ | refine vc_region ?_ | refine vq_then ?_ | refine vc_end ?_ | refine vc_code_skip ?_ | refine vc_block ?_ | refine vq_block ?_ | refine vc_ret ?_ | refine vq_then_ret ?_ | refine vq_block_ret ?_ | refine vc_exit ?_ | refine vq_then_exit ?_ | refine vq_block_exit ?_) | (with_reducible refine gL ?_); (first | refine ym ?_ | refine ya ?_ | refine ypt ?_ | refine ypf ?_ | refine vsk ?_ | refine ynk ?_ | refine vy (y_not rfl) ?_ | refine vy (y_eqi rfl rfl) ?_ | refine vy (y_nei rfl rfl) ?_ | refine vy (y_lss rfl rfl) ?_ | refine vy (y_leq rfl rfl) ?_ | refine vy (y_gtr rfl rfl) ?_ | refine vy (y_geq rfl rfl) ?_ | refine vy (y_eqs rfl rfl) ?_ | refine vy (y_nes rfl rfl) ?_ | refine vy (y_ext rfl rfl) ?_) | (with_reducible refine gC ?_); (first | refine vc_ift rfl ?_ | refine vc_iff rfl ?_) | refine vq_block_other rfl ?_)); exact h) : G := s h
theorem a3 (h : G') (s : G' → G := by intro h; (iterate 3 (first | with_reducible (first | refine vc_seq ?_ | refine vc_region ?_ | refine vq_then ?_ | refine vc_end ?_ | refine vc_code_skip ?_ | refine vc_block ?_ | refine vq_block ?_ | refine vc_ret ?_ | refine vq_then_ret ?_ | refine vq_block_ret ?_ | refine vc_exit ?_ | refine vq_then_exit ?_ | refine vq_block_exit ?_) | (with_reducible refine gL ?_); (first | refine ym ?_ | refine ya ?_ | refine ypt ?_ | refine ypf ?_ | refine vsk ?_ | refine ynk ?_ | refine vy (y_not rfl) ?_ | refine vy (y_eqi rfl rfl) ?_ | refine vy (y_nei rfl rfl) ?_ | refine vy (y_lss rfl rfl) ?_ | refine vy (y_leq rfl rfl) ?_ | refine vy (y_gtr rfl rfl) ?_ | refine vy (y_geq rfl rfl) ?_ | refine vy (y_eqs rfl rfl) ?_ | refine vy (y_nes rfl rfl) ?_ | refine vy (y_ext rfl rfl) ?_) | (with_reducible refine gC ?_); (first | refine vc_ift rfl ?_ | refine vc_iff rfl ?_) | refine vq_block_other rfl ?_)); exact h) : G := s h
theorem a4 (h : G') (s : G' → G := by intro h; (iterate 4 (first | with_reducible (first | refine vc_seq ?_ | refine vc_region ?_ | refine vq_then ?_ | refine vc_end ?_ | refine vc_code_skip ?_ | refine vc_block ?_ | refine vq_block ?_ | refine vc_ret ?_ | refine vq_then_ret ?_ | refine vq_block_ret ?_ | refine vc_exit ?_ | refine vq_then_exit ?_ | refine vq_block_exit ?_) | (with_reducible refine gL ?_); (first | refine ym ?_ | refine ya ?_ | refine ypt ?_ | refine ypf ?_ | refine vsk ?_ | refine ynk ?_ | refine vy (y_not rfl) ?_ | refine vy (y_eqi rfl rfl) ?_ | refine vy (y_nei rfl rfl) ?_ | refine vy (y_lss rfl rfl) ?_ | refine vy (y_leq rfl rfl) ?_ | refine vy (y_gtr rfl rfl) ?_ | refine vy (y_geq rfl rfl) ?_ | refine vy (y_eqs rfl rfl) ?_ | refine vy (y_nes rfl rfl) ?_ | refine vy (y_ext rfl rfl) ?_) | (with_reducible refine gC ?_); (first | refine vc_ift rfl ?_ | refine vc_iff rfl ?_) | refine vq_block_other rfl ?_)); exact h) : G := s h
theorem a5 (h : G') (s : G' → G := by intro h; (iterate 5 (first | with_reducible (first | refine vc_seq ?_ | refine vc_region ?_ | refine vq_then ?_ | refine vc_end ?_ | refine vc_code_skip ?_ | refine vc_block ?_ | refine vq_block ?_ | refine vc_ret ?_ | refine vq_then_ret ?_ | refine vq_block_ret ?_ | refine vc_exit ?_ | refine vq_then_exit ?_ | refine vq_block_exit ?_) | (with_reducible refine gL ?_); (first | refine ym ?_ | refine ya ?_ | refine ypt ?_ | refine ypf ?_ | refine vsk ?_ | refine ynk ?_ | refine vy (y_not rfl) ?_ | refine vy (y_eqi rfl rfl) ?_ | refine vy (y_nei rfl rfl) ?_ | refine vy (y_lss rfl rfl) ?_ | refine vy (y_leq rfl rfl) ?_ | refine vy (y_gtr rfl rfl) ?_ | refine vy (y_geq rfl rfl) ?_ | refine vy (y_eqs rfl rfl) ?_ | refine vy (y_nes rfl rfl) ?_ | refine vy (y_ext rfl rfl) ?_) | (with_reducible refine gC ?_); (first | refine vc_ift rfl ?_ | refine vc_iff rfl ?_) | refine vq_block_other rfl ?_)); exact h) : G := s h
theorem a6 (h : G') (s : G' → G := by intro h; (iterate 6 (first | with_reducible (first | refine vc_seq ?_ | refine vc_region ?_ | refine vq_then ?_ | refine vc_end ?_ | refine vc_code_skip ?_ | refine vc_block ?_ | refine vq_block ?_ | refine vc_ret ?_ | refine vq_then_ret ?_ | refine vq_block_ret ?_ | refine vc_exit ?_ | refine vq_then_exit ?_ | refine vq_block_exit ?_) | (with_reducible refine gL ?_); (first | refine ym ?_ | refine ya ?_ | refine ypt ?_ | refine ypf ?_ | refine vsk ?_ | refine ynk ?_ | refine vy (y_not rfl) ?_ | refine vy (y_eqi rfl rfl) ?_ | refine vy (y_nei rfl rfl) ?_ | refine vy (y_lss rfl rfl) ?_ | refine vy (y_leq rfl rfl) ?_ | refine vy (y_gtr rfl rfl) ?_ | refine vy (y_geq rfl rfl) ?_ | refine vy (y_eqs rfl rfl) ?_ | refine vy (y_nes rfl rfl) ?_ | refine vy (y_ext rfl rfl) ?_) | (with_reducible refine gC ?_); (first | refine vc_ift rfl ?_ | refine vc_iff rfl ?_) | refine vq_block_other rfl ?_)); exact h) : G := s h
theorem a7 (h : G') (s : G' → G := by intro h; (iterate 7 (first | with_reducible (first | refine vc_seq ?_ | refine vc_region ?_ | refine vq_then ?_ | refine vc_end ?_ | refine vc_code_skip ?_ | refine vc_block ?_ | refine vq_block ?_ | refine vc_ret ?_ | refine vq_then_ret ?_ | refine vq_block_ret ?_ | refine vc_exit ?_ | refine vq_then_exit ?_ | refine vq_block_exit ?_) | (with_reducible refine gL ?_); (first | refine ym ?_ | refine ya ?_ | refine ypt ?_ | refine ypf ?_ | refine vsk ?_ | refine ynk ?_ | refine vy (y_not rfl) ?_ | refine vy (y_eqi rfl rfl) ?_ | refine vy (y_nei rfl rfl) ?_ | refine vy (y_lss rfl rfl) ?_ | refine vy (y_leq rfl rfl) ?_ | refine vy (y_gtr rfl rfl) ?_ | refine vy (y_geq rfl rfl) ?_ | refine vy (y_eqs rfl rfl) ?_ | refine vy (y_nes rfl rfl) ?_ | refine vy (y_ext rfl rfl) ?_) | (with_reducible refine gC ?_); (first | refine vc_ift rfl ?_ | refine vc_iff rfl ?_) | refine vq_block_other rfl ?_)); exact h) : G := s h
theorem a8 (h : G') (s : G' → G := by intro h; (iterate 8 (first | with_reducible (first | refine vc_seq ?_ | refine vc_region ?_ | refine vq_then ?_ | refine vc_end ?_ | refine vc_code_skip ?_ | refine vc_block ?_ | refine vq_block ?_ | refine vc_ret ?_ | refine vq_then_ret ?_ | refine vq_block_ret ?_ | refine vc_exit ?_ | refine vq_then_exit ?_ | refine vq_block_exit ?_) | (with_reducible refine gL ?_); (first | refine ym ?_ | refine ya ?_ | refine ypt ?_ | refine ypf ?_ | refine vsk ?_ | refine ynk ?_ | refine vy (y_not rfl) ?_ | refine vy (y_eqi rfl rfl) ?_ | refine vy (y_nei rfl rfl) ?_ | refine vy (y_lss rfl rfl) ?_ | refine vy (y_leq rfl rfl) ?_ | refine vy (y_gtr rfl rfl) ?_ | refine vy (y_geq rfl rfl) ?_ | refine vy (y_eqs rfl rfl) ?_ | refine vy (y_nes rfl rfl) ?_ | refine vy (y_ext rfl rfl) ?_) | (with_reducible refine gC ?_); (first | refine vc_ift rfl ?_ | refine vc_iff rfl ?_) | refine vq_block_other rfl ?_)); exact h) : G := s h
theorem a9 (h : G') (s : G' → G := by intro h; (iterate 9 (first | with_reducible (first | refine vc_seq ?_ | refine vc_region ?_ | refine vq_then ?_ | refine vc_end ?_ | refine vc_code_skip ?_ | refine vc_block ?_ | refine vq_block ?_ | refine vc_ret ?_ | refine vq_then_ret ?_ | refine vq_block_ret ?_ | refine vc_exit ?_ | refine vq_then_exit ?_ | refine vq_block_exit ?_) | (with_reducible refine gL ?_); (first | refine ym ?_ | refine ya ?_ | refine ypt ?_ | refine ypf ?_ | refine vsk ?_ | refine ynk ?_ | refine vy (y_not rfl) ?_ | refine vy (y_eqi rfl rfl) ?_ | refine vy (y_nei rfl rfl) ?_ | refine vy (y_lss rfl rfl) ?_ | refine vy (y_leq rfl rfl) ?_ | refine vy (y_gtr rfl rfl) ?_ | refine vy (y_geq rfl rfl) ?_ | refine vy (y_eqs rfl rfl) ?_ | refine vy (y_nes rfl rfl) ?_ | refine vy (y_ext rfl rfl) ?_) | (with_reducible refine gC ?_); (first | refine vc_ift rfl ?_ | refine vc_iff rfl ?_) | refine vq_block_other rfl ?_)); exact h) : G := s h
theorem a10 (h : G') (s : G' → G := by intro h; (iterate 10 (first | with_reducible (first | refine vc_seq ?_ | refine vc_region ?_ | refine vq_then ?_ | refine vc_end ?_ | refine vc_code_skip ?_ | refine vc_block ?_ | refine vq_block ?_ | refine vc_ret ?_ | refine vq_then_ret ?_ | refine vq_block_ret ?_ | refine vc_exit ?_ | refine vq_then_exit ?_ | refine vq_block_exit ?_) | (with_reducible refine gL ?_); (first | refine ym ?_ | refine ya ?_ | refine ypt ?_ | refine ypf ?_ | refine vsk ?_ | refine ynk ?_ | refine vy (y_not rfl) ?_ | refine vy (y_eqi rfl rfl) ?_ | refine vy (y_nei rfl rfl) ?_ | refine vy (y_lss rfl rfl) ?_ | refine vy (y_leq rfl rfl) ?_ | refine vy (y_gtr rfl rfl) ?_ | refine vy (y_geq rfl rfl) ?_ | refine vy (y_eqs rfl rfl) ?_ | refine vy (y_nes rfl rfl) ?_ | refine vy (y_ext rfl rfl) ?_) | (with_reducible refine gC ?_); (first | refine vc_ift rfl ?_ | refine vc_iff rfl ?_) | refine vq_block_other rfl ?_)); exact h) : G := s h
theorem a11 (h : G') (s : G' → G := by intro h; (iterate 11 (first | with_reducible (first | refine vc_seq ?_ | refine vc_region ?_ | refine vq_then ?_ | refine vc_end ?_ | refine vc_code_skip ?_ | refine vc_block ?_ | refine vq_block ?_ | refine vc_ret ?_ | refine vq_then_ret ?_ | refine vq_block_ret ?_ | refine vc_exit ?_ | refine vq_then_exit ?_ | refine vq_block_exit ?_) | (with_reducible refine gL ?_); (first | refine ym ?_ | refine ya ?_ | refine ypt ?_ | refine ypf ?_ | refine vsk ?_ | refine ynk ?_ | refine vy (y_not rfl) ?_ | refine vy (y_eqi rfl rfl) ?_ | refine vy (y_nei rfl rfl) ?_ | refine vy (y_lss rfl rfl) ?_ | refine vy (y_leq rfl rfl) ?_ | refine vy (y_gtr rfl rfl) ?_ | refine vy (y_geq rfl rfl) ?_ | refine vy (y_eqs rfl rfl) ?_ | refine vy (y_nes rfl rfl) ?_ | refine vy (y_ext rfl rfl) ?_) | (with_reducible refine gC ?_); (first | refine vc_ift rfl ?_ | refine vc_iff rfl ?_) | refine vq_block_other rfl ?_)); exact h) : G := s h
theorem a12 (h : G') (s : G' → G := by intro h; (iterate 12 (first | with_reducible (first | refine vc_seq ?_ | refine vc_region ?_ | refine vq_then ?_ | refine vc_end ?_ | refine vc_code_skip ?_ | refine vc_block ?_ | refine vq_block ?_ | refine vc_ret ?_ | refine vq_then_ret ?_ | refine vq_block_ret ?_ | refine vc_exit ?_ | refine vq_then_exit ?_ | refine vq_block_exit ?_) | (with_reducible refine gL ?_); (first | refine ym ?_ | refine ya ?_ | refine ypt ?_ | refine ypf ?_ | refine vsk ?_ | refine ynk ?_ | refine vy (y_not rfl) ?_ | refine vy (y_eqi rfl rfl) ?_ | refine vy (y_nei rfl rfl) ?_ | refine vy (y_lss rfl rfl) ?_ | refine vy (y_leq rfl rfl) ?_ | refine vy (y_gtr rfl rfl) ?_ | refine vy (y_geq rfl rfl) ?_ | refine vy (y_eqs rfl rfl) ?_ | refine vy (y_nes rfl rfl) ?_ | refine vy (y_ext rfl rfl) ?_) | (with_reducible refine gC ?_); (first | refine vc_ift rfl ?_ | refine vc_iff rfl ?_) | refine vq_block_other rfl ?_)); exact h) : G := s h
theorem a13 (h : G') (s : G' → G := by intro h; (iterate 13 (first | with_reducible (first | refine vc_seq ?_ | refine vc_region ?_ | refine vq_then ?_ | refine vc_end ?_ | refine vc_code_skip ?_ | refine vc_block ?_ | refine vq_block ?_ | refine vc_ret ?_ | refine vq_then_ret ?_ | refine vq_block_ret ?_ | refine vc_exit ?_ | refine vq_then_exit ?_ | refine vq_block_exit ?_) | (with_reducible refine gL ?_); (first | refine ym ?_ | refine ya ?_ | refine ypt ?_ | refine ypf ?_ | refine vsk ?_ | refine ynk ?_ | refine vy (y_not rfl) ?_ | refine vy (y_eqi rfl rfl) ?_ | refine vy (y_nei rfl rfl) ?_ | refine vy (y_lss rfl rfl) ?_ | refine vy (y_leq rfl rfl) ?_ | refine vy (y_gtr rfl rfl) ?_ | refine vy (y_geq rfl rfl) ?_ | refine vy (y_eqs rfl rfl) ?_ | refine vy (y_nes rfl rfl) ?_ | refine vy (y_ext rfl rfl) ?_) | (with_reducible refine gC ?_); (first | refine vc_ift rfl ?_ | refine vc_iff rfl ?_) | refine vq_block_other rfl ?_)); exact h) : G := s h
theorem a14 (h : G') (s : G' → G := by intro h; (iterate 14 (first | with_reducible (first | refine vc_seq ?_ | refine vc_region ?_ | refine vq_then ?_ | refine vc_end ?_ | refine vc_code_skip ?_ | refine vc_block ?_ | refine vq_block ?_ | refine vc_ret ?_ | refine vq_then_ret ?_ | refine vq_block_ret ?_ | refine vc_exit ?_ | refine vq_then_exit ?_ | refine vq_block_exit ?_) | (with_reducible refine gL ?_); (first | refine ym ?_ | refine ya ?_ | refine ypt ?_ | refine ypf ?_ | refine vsk ?_ | refine ynk ?_ | refine vy (y_not rfl) ?_ | refine vy (y_eqi rfl rfl) ?_ | refine vy (y_nei rfl rfl) ?_ | refine vy (y_lss rfl rfl) ?_ | refine vy (y_leq rfl rfl) ?_ | refine vy (y_gtr rfl rfl) ?_ | refine vy (y_geq rfl rfl) ?_ | refine vy (y_eqs rfl rfl) ?_ | refine vy (y_nes rfl rfl) ?_ | refine vy (y_ext rfl rfl) ?_) | (with_reducible refine gC ?_); (first | refine vc_ift rfl ?_ | refine vc_iff rfl ?_) | refine vq_block_other rfl ?_)); exact h) : G := s h
theorem a15 (h : G') (s : G' → G := by intro h; (iterate 15 (first | with_reducible (first | refine vc_seq ?_ | refine vc_region ?_ | refine vq_then ?_ | refine vc_end ?_ | refine vc_code_skip ?_ | refine vc_block ?_ | refine vq_block ?_ | refine vc_ret ?_ | refine vq_then_ret ?_ | refine vq_block_ret ?_ | refine vc_exit ?_ | refine vq_then_exit ?_ | refine vq_block_exit ?_) | (with_reducible refine gL ?_); (first | refine ym ?_ | refine ya ?_ | refine ypt ?_ | refine ypf ?_ | refine vsk ?_ | refine ynk ?_ | refine vy (y_not rfl) ?_ | refine vy (y_eqi rfl rfl) ?_ | refine vy (y_nei rfl rfl) ?_ | refine vy (y_lss rfl rfl) ?_ | refine vy (y_leq rfl rfl) ?_ | refine vy (y_gtr rfl rfl) ?_ | refine vy (y_geq rfl rfl) ?_ | refine vy (y_eqs rfl rfl) ?_ | refine vy (y_nes rfl rfl) ?_ | refine vy (y_ext rfl rfl) ?_) | (with_reducible refine gC ?_); (first | refine vc_ift rfl ?_ | refine vc_iff rfl ?_) | refine vq_block_other rfl ?_)); exact h) : G := s h
theorem a16 (h : G') (s : G' → G := by intro h; (iterate 16 (first | with_reducible (first | refine vc_seq ?_ | refine vc_region ?_ | refine vq_then ?_ | refine vc_end ?_ | refine vc_code_skip ?_ | refine vc_block ?_ | refine vq_block ?_ | refine vc_ret ?_ | refine vq_then_ret ?_ | refine vq_block_ret ?_ | refine vc_exit ?_ | refine vq_then_exit ?_ | refine vq_block_exit ?_) | (with_reducible refine gL ?_); (first | refine ym ?_ | refine ya ?_ | refine ypt ?_ | refine ypf ?_ | refine vsk ?_ | refine ynk ?_ | refine vy (y_not rfl) ?_ | refine vy (y_eqi rfl rfl) ?_ | refine vy (y_nei rfl rfl) ?_ | refine vy (y_lss rfl rfl) ?_ | refine vy (y_leq rfl rfl) ?_ | refine vy (y_gtr rfl rfl) ?_ | refine vy (y_geq rfl rfl) ?_ | refine vy (y_eqs rfl rfl) ?_ | refine vy (y_nes rfl rfl) ?_ | refine vy (y_ext rfl rfl) ?_) | (with_reducible refine gC ?_); (first | refine vc_ift rfl ?_ | refine vc_iff rfl ?_) | refine vq_block_other rfl ?_)); exact h) : G := s h
end
end Sx


/- What the lexer computes, in plain words: no program in sight. -/
namespace LexS

def isLetter (c : UInt8) : Bool := decide (97 ≤ c.toNat ∧ c.toNat ≤ 122 ∨ 65 ≤ c.toNat ∧ c.toNat ≤ 90 ∨ c.toNat = 95)
def isDigit (c : UInt8) : Bool := decide (48 ≤ c.toNat ∧ c.toNat ≤ 57)
def isBlank (c : UInt8) : Bool := decide (c.toNat = 32 ∨ c.toNat = 9 ∨ c.toNat = 10 ∨ c.toNat = 13)
def isIdent (c : UInt8) : Bool := isLetter c || isDigit c
def wShared : List UInt8 := [115, 104, 97, 114, 101, 100]
def wLock : List UInt8 := [108, 111, 99, 107]
def wThread : List UInt8 := [116, 104, 114, 101, 97, 100]
def wLocal : List UInt8 := [108, 111, 99, 97, 108]
def wIf : List UInt8 := [105, 102]
def wElse : List UInt8 := [101, 108, 115, 101]
def wWhile : List UInt8 := [119, 104, 105, 108, 101]
def wPrint : List UInt8 := [112, 114, 105, 110, 116]
def wSkip : List UInt8 := [115, 107, 105, 112]
def wSwap : List UInt8 := [115, 119, 97, 112]
def isWord (l : List UInt8) : Bool := decide (l = wShared ∨ l = wLock ∨ l = wThread ∨ l = wLocal ∨ l = wIf ∨ l = wElse ∨ l = wWhile ∨ l = wPrint ∨ l = wSkip ∨ l = wSwap)
/-- the signs of two bytes -/
def isSign2 (l : List UInt8) : Bool := decide (l = [61, 61] ∨ l = [33, 61] ∨ l = [60, 61] ∨ l = [62, 61] ∨ l = [60, 60] ∨ l = [62, 62])
def signs1 : List UInt8 := [40, 41, 123, 125, 44, 59, 61, 43, 45, 42, 47, 37, 38, 124, 94, 33, 60, 62]
/-- the signs of one byte -/
def isSign1 (l : List UInt8) : Bool := match l with | [c] => signs1.contains c | _ => false
def isSign (l : List UInt8) : Bool := isSign2 l || isSign1 l
def isName (l : List UInt8) : Bool := match l with
  | [] => false
  | c :: _ => decide (l.length ≤ 32) && !isDigit c && !isWord l && l.all isIdent

/-- how many bytes stand ahead of the first LF (or the end) -/
def toLf : List UInt8 → Nat
  | [] => 0
  | c :: r => if c = 10 then 0 else toLf r + 1

def isRem (l : List UInt8) : Bool := match l with | a :: b :: _ => decide (a = 47 ∧ b = 47) | _ => false

/-- how many bytes of blanks and remarks stand ahead -/
def skipF : Nat → List UInt8 → Nat
  | 0, _ => 0
  | _ + 1, [] => 0
  | k + 1, c :: r => if isBlank c then skipF k r + 1 else if isRem (c :: r) then toLf (c :: r) + skipF k ((c :: r).drop (toLf (c :: r))) else 0
def skip (l : List UInt8) : Nat := skipF (l.length + 1) l

theorem toLf_le (l : List UInt8) : toLf l ≤ l.length := by
  induction l with
  | nil => simp [toLf]
  | cons c r ih => simp only [toLf]; split <;> simp <;> omega

theorem toLf_pos {l : List UInt8} (h : isRem l = true) : 0 < toLf l := by
  match l with
  | [] => simp [isRem] at h
  | [_] => simp [isRem] at h
  | a :: b :: r =>
    simp [isRem] at h
    obtain ⟨rfl, rfl⟩ := h
    simp [toLf]

theorem skipF_fuel : ∀ (k j : Nat) (l : List UInt8), l.length < k → l.length < j → skipF k l = skipF j l
  | 0, j, l, h, _ => by omega
  | k + 1, 0, l, _, h => by omega
  | k + 1, j + 1, [], _, _ => rfl
  | k + 1, j + 1, c :: r, h1, h2 => by
    simp only [List.length_cons] at h1 h2
    simp only [skipF]
    split
    · rw [skipF_fuel k j r (by omega) (by omega)]
    · split
      · rename_i hr
        have hp := toLf_pos hr
        have hl : ((c :: r).drop (toLf (c :: r))).length < r.length + 1 := by simp only [List.length_drop, List.length_cons]; omega
        rw [skipF_fuel k j _ (by omega) (by omega)]
      · rfl

theorem skip_nil : skip [] = 0 := rfl
theorem skip_blank {c : UInt8} {r : List UInt8} (h : isBlank c = true) : skip (c :: r) = skip r + 1 := by
  unfold skip
  simp only [List.length_cons, skipF, h, if_true]
theorem skip_rem {l : List UInt8} (h : isRem l = true) : skip l = toLf l + skip (l.drop (toLf l)) := by
  match l, h with
  | [], h => simp [isRem] at h
  | c :: r, h =>
    have hb : isBlank c = false := by
      match r, h with
      | [], h => simp [isRem] at h
      | b :: r, h =>
        simp [isRem] at h
        obtain ⟨rfl, rfl⟩ := h
        decide
    have hp := toLf_pos h
    unfold skip
    simp only [List.length_cons, skipF, hb, h, if_true]
    simp only [Bool.false_eq_true, if_false]
    rw [skipF_fuel (r.length + 1) (((c :: r).drop (toLf (c :: r))).length + 1)]
    · simp only [List.length_drop, List.length_cons]; omega
    · omega
theorem skip_other {c : UInt8} {r : List UInt8} (h : isBlank c = false) (hr : isRem (c :: r) = false) : skip (c :: r) = 0 := by
  unfold skip
  simp only [List.length_cons, skipF, h, hr, Bool.false_eq_true, if_false]

theorem skip_le (l : List UInt8) : skip l ≤ l.length := by
  have key : ∀ n (l : List UInt8), l.length = n → skip l ≤ l.length := by
    intro n
    induction n using Nat.strongRecOn with
    | _ n ih =>
      intro l hl
      match l with
      | [] => simp [skip_nil]
      | c :: r =>
        cases hb : isBlank c with
        | true =>
          rw [skip_blank hb]
          have := ih r.length (by simp at hl; omega) r rfl
          simp; omega
        | false =>
          cases hr : isRem (c :: r) with
          | true =>
            rw [skip_rem hr]
            have hp := toLf_pos hr
            have hle := toLf_le (c :: r)
            have := ih ((c :: r).drop (toLf (c :: r))).length (by simp only [List.length_drop, List.length_cons] at *; omega) _ rfl
            simp only [List.length_drop] at this
            omega
          | false => rw [skip_other hb hr]; simp
  exact key _ l rfl

theorem indexByte_lf (l : List UInt8) : Go.Lib.indexByte l 10 = -1 ∧ toLf l = l.length ∨ Go.Lib.indexByte l 10 = (toLf l : Int) ∧ 0 ≤ Go.Lib.indexByte l 10 := by
  induction l with
  | nil => left; simp [Go.Lib.indexByte, toLf]
  | cons c r ih =>
    simp only [Go.Lib.indexByte, toLf]
    by_cases hc : c = 10
    · subst hc; right; simp
    · have hc' : (c == 10) = false := by simpa using hc
      simp only [hc', hc, if_false, Bool.false_eq_true]
      rcases ih with ⟨h1, h2⟩ | ⟨h1, h2⟩
      · left; simp [h1, h2]
      · right
        have : ¬ (Go.Lib.indexByte r 10 == -1) = true := by simp; omega
        rw [if_neg this, h1]
        constructor
        · omega
        · omega

theorem contains_ib (l : List UInt8) (c : UInt8) : decide (0 ≤ Go.Lib.indexByte l c) = l.contains c := by
  have h : (0 ≤ Go.Lib.indexByte l c) ↔ c ∈ l := by
    induction l with
    | nil => simp [Go.Lib.indexByte]
    | cons b r ih =>
      have hge := Go.Lib.indexByte_ge r c
      simp only [Go.Lib.indexByte]
      by_cases hb : b = c
      · subst hb; simp
      · have hb' : (b == c) = false := by simpa using hb
        simp only [hb', Bool.false_eq_true, if_false, List.mem_cons, Ne.symm hb, false_or, ← ih]
        split
        · rename_i h; simp at h; omega
        · rename_i h; simp at h; omega
  rw [Bool.eq_iff_iff]; simp [h]

/-! ### tokens -/
structure Tok where
  kind : Nat
  text : List UInt8
  word : Nat
  at_ : Nat
  deriving DecidableEq, Repr

def numVal (l : List UInt8) : Nat := l.foldl (fun n c => 10 * n + (c.toNat - 48)) 0

theorem numVal_snoc (l : List UInt8) (c : UInt8) : numVal (l ++ [c]) = 10 * numVal l + (c.toNat - 48) := by simp [numVal]

inductive TokR where
  | tok (t : Tok)
  | bad (rule at_ : Nat)
  deriving DecidableEq, Repr

/-- the token that begins a text that is not empty; 'i': where -/
def tokAt (r : List UInt8) (i : Nat) : TokR := match r with
  | [] => .bad 1 i
  | c :: _ =>
    if isLetter c then
      let t := r.takeWhile isIdent
      if isWord t then .tok ⟨2, t, 0, i⟩ else if 32 < t.length then .bad 2 (i + 32) else .tok ⟨1, t, 0, i⟩
    else if isDigit c then
      let t := r.takeWhile isDigit
      if (1 < t.length ∧ c = 48) ∨ 9223372036854775807 < numVal t then .bad 3 i
      else match r.drop t.length with
        | d :: _ => if isLetter d then .bad 4 (i + t.length) else .tok ⟨3, t, numVal t, i⟩
        | [] => .tok ⟨3, t, numVal t, i⟩
    else if isSign2 (r.take 2) then .tok ⟨4, r.take 2, 0, i⟩
    else if isSign1 [c] then .tok ⟨4, [c], 0, i⟩
    else .bad 1 i

/-- the tokens ahead of the first fault; the fault -/
def scanF : Nat → List UInt8 → Nat → List Tok × Option (Nat × Nat)
  | 0, _, _ => ([], none)
  | k + 1, r, i =>
    match r.drop (skip r) with
    | [] => ([], none)
    | c :: r' => match tokAt (c :: r') (i + skip r) with
      | .bad rule p => ([], some (rule, p))
      | .tok t => ((t :: (scanF k ((c :: r').drop t.text.length) (i + skip r + t.text.length)).1), (scanF k ((c :: r').drop t.text.length) (i + skip r + t.text.length)).2)
def front (s : List UInt8) : List Tok × Option (Nat × Nat) := scanF (s.length + 1) s 0

theorem tok_len {r : List UInt8} {i : Nat} {t : Tok} (h : tokAt r i = .tok t) : 1 ≤ t.text.length ∧ t.text = r.take t.text.length ∧ t.at_ = i := by
  match r, h with
  | [], h => simp [tokAt] at h
  | c :: r, h =>
    have htw : ∀ p : UInt8 → Bool, (c :: r).takeWhile p = (c :: r).take ((c :: r).takeWhile p).length := fun p => by
      have h := List.takeWhile_append_dropWhile (p := p) (l := c :: r)
      have h2 : (c :: r).take ((c :: r).takeWhile p).length = ((c :: r).takeWhile p ++ (c :: r).dropWhile p).take ((c :: r).takeWhile p).length := by rw [h]
      rw [h2, List.take_left']
      rfl
    have hpos : ∀ p : UInt8 → Bool, p c = true → 1 ≤ ((c :: r).takeWhile p).length := fun p hp => by rw [List.takeWhile_cons, if_pos hp]; simp
    have h2 : ∀ l : List UInt8, isSign2 l = true → l.length = 2 := fun l hl => by
      simp only [isSign2, decide_eq_true_eq] at hl
      rcases hl with h | h | h | h | h | h <;> simp [h]
    simp only [tokAt] at h
    split at h
    · rename_i hc
      have hi : isIdent c = true := by simp [isIdent, hc]
      split at h
      · cases h; exact ⟨hpos _ hi, htw _, rfl⟩
      · split at h
        · cases h
        · cases h; exact ⟨hpos _ hi, htw _, rfl⟩
    · split at h
      · rename_i hd
        split at h
        · cases h
        · split at h
          · split at h
            · cases h
            · cases h; exact ⟨hpos _ hd, htw _, rfl⟩
          · cases h; exact ⟨hpos _ hd, htw _, rfl⟩
      · split at h
        · rename_i hs
          cases h
          have hl := h2 _ hs
          exact ⟨by dsimp only; omega, by dsimp only; rw [hl], rfl⟩
        · split at h
          · cases h; exact ⟨by simp, by simp, rfl⟩
          · cases h

theorem scanF_fuel : ∀ (k j : Nat) (r : List UInt8) (i : Nat), r.length < k → r.length < j → scanF k r i = scanF j r i
  | 0, _, _, _, h, _ => by omega
  | _ + 1, 0, _, _, _, h => by omega
  | k + 1, j + 1, r, i, h1, h2 => by
    simp only [scanF]
    cases hd : r.drop (skip r) with
    | nil => rfl
    | cons c r' =>
      have hl : (c :: r').length ≤ r.length := by rw [← hd]; simp
      cases ht : tokAt (c :: r') (i + skip r) with
      | bad rule p => simp only [ht]
      | tok t =>
        have h3 := (tok_len ht).1
        have h4 : 1 ≤ (c :: r').length := by simp
        have e := scanF_fuel k j ((c :: r').drop t.text.length) (i + skip r + t.text.length) (by simp only [List.length_drop]; omega) (by simp only [List.length_drop]; omega)
        simp only [ht, e]

def scanA (r : List UInt8) (i : Nat) : List Tok × Option (Nat × Nat) := scanF (r.length + 1) r i
theorem front_eq (s : List UInt8) : front s = scanA s 0 := rfl
theorem scanA_end {r : List UInt8} {i : Nat} (h : r.length ≤ skip r) : scanA r i = ([], none) := by
  simp only [scanA, scanF]
  rw [List.drop_eq_nil_of_le h]
theorem scanA_bad {r : List UInt8} {i rule p : Nat} (h : skip r < r.length) (hb : tokAt (r.drop (skip r)) (i + skip r) = .bad rule p) : scanA r i = ([], some (rule, p)) := by
  simp only [scanA, scanF]
  cases hd : r.drop (skip r) with
  | nil => have := congrArg List.length hd; simp at this; omega
  | cons c r' => rw [hd] at hb; simp only [hb]
theorem scanA_tok {r : List UInt8} {i : Nat} {t : Tok} (h : skip r < r.length) (hb : tokAt (r.drop (skip r)) (i + skip r) = .tok t) :
    scanA r i = (t :: (scanA (r.drop (skip r + t.text.length)) (i + skip r + t.text.length)).1, (scanA (r.drop (skip r + t.text.length)) (i + skip r + t.text.length)).2) := by
  have h3 := (tok_len hb).1
  have e : scanA (r.drop (skip r + t.text.length)) (i + skip r + t.text.length) = scanF r.length (r.drop (skip r + t.text.length)) (i + skip r + t.text.length) :=
    scanF_fuel _ _ _ _ (by omega) (by simp only [List.length_drop]; omega)
  rw [e]
  simp only [scanA, scanF]
  cases hd : r.drop (skip r) with
  | nil => have := congrArg List.length hd; simp at this; omega
  | cons c r' =>
    rw [hd] at hb
    simp only [hb]
    rw [← hd, List.drop_drop]

/-- Scan's answer: tokens, error, place, rule -/
def scanRes (s : List UInt8) : List Tok × Nat × Nat × Nat :=
  if 65536 < s.length then ([], 4, 0, 0) else match (front s).2 with
    | none => ((front s).1, 0, 0, 0)
    | some (rule, p) => ([], 20, p, rule)
end LexS


namespace Go.Proofs.YtjoepkpdanolkaaGreatDoor
open Go.RowKit Sx LexS _root_.Go.Proofs.Tryz
theorem Tryz.mixed : Tryz.prog.follows .mixedOrders = true := by kernel_rfl

theorem digit_any (c : UInt8) (w : World) : Ret Tryz.prog 86 [.int .u8 (c.toNat : Int)] w fun v w' => v = .bool (isDigit c) ∧ w' = w := by
 refine ret_of [_] Tryz.func86 rfl Tryz.ntmps86 rfl ?_;have st := St.init w [];refine a9 ?_;refine vmb ?_ ?_;intro hg5;(try simp only [dn] at hg5);refine a3 ?_
 rotate_left
 intro hg5;(try simp only [dn] at hg5);refine a3 ?_
 all_goals
  refine a4 ?_;refine vr1 st Tryz.results86 ?_;exact ⟨by rw [Value.bool.injEq, Bool.eq_iff_iff]; simp only [isDigit, decide_eq_true_eq, true_iff, Bool.false_eq_true, false_iff]; omega, rfl⟩
theorem letter_any (c : UInt8) (w : World) : Ret Tryz.prog 85 [.int .u8 (c.toNat : Int)] w fun v w' => v = .bool (isLetter c) ∧ w' = w := by
 refine ret_of [_] Tryz.func85 rfl Tryz.ntmps85 rfl ?_;have st := St.init w [];refine sr ?_;refine ya ?_;refine et (sr ?_);refine ym ?_;refine vy (y_geq rfl rfl) ?_;refine vmb ?_ ?_
 focus
  intro hg5;(try simp only [dn] at hg5);refine ym ?_;refine vy (y_leq rfl rfl) ?_;refine ypt ?_;refine vmb ?_ ?_;intro hg9;(try simp only [dn] at hg9);(iterate 6 refine vsk ?_);refine ypt ?_;refine ym ?_;(iterate 2 refine vsk ?_);refine ypt ?_
  rotate_left
  focus
   intro hg9;(try simp only [dn] at hg9);refine ym ?_;refine vy (y_geq rfl rfl) ?_;refine vmb ?_ ?_
   focus
    intro hg12;(try simp only [dn] at hg12);refine ym ?_;refine vy (y_leq rfl rfl) ?_;refine ypt ?_;refine ypf ?_;refine vmb ?_ ?_;intro hg17;(try simp only [dn] at hg17);(iterate 2 refine vsk ?_);refine ypt ?_
    rotate_left
    intro hg17;(try simp only [dn] at hg17);refine ym ?_;refine vy (y_eqi rfl rfl) ?_;refine ypf ?_
   rotate_left 2
   intro hg12;(try simp only [dn] at hg12);(iterate 2 refine vsk ?_);(iterate 2 refine ypf ?_);(iterate 2 refine ym ?_);refine vy (y_eqi rfl rfl) ?_;refine ypf ?_
 rotate_left 4
 focus
  intro hg5;(try simp only [dn] at hg5);(iterate 2 refine vsk ?_);refine ypf ?_;(iterate 2 refine ym ?_);refine vy (y_geq rfl rfl) ?_;refine vmb ?_ ?_
  focus
   intro hg12;(try simp only [dn] at hg12);refine ym ?_;refine vy (y_leq rfl rfl) ?_;refine ypt ?_;refine ypf ?_;refine vmb ?_ ?_;intro hg17;(try simp only [dn] at hg17);(iterate 2 refine vsk ?_);refine ypt ?_
   rotate_left
   intro hg17;(try simp only [dn] at hg17);refine ym ?_;refine vy (y_eqi rfl rfl) ?_;refine ypf ?_
  rotate_left 2
  intro hg12;(try simp only [dn] at hg12);(iterate 2 refine vsk ?_);(iterate 2 refine ypf ?_);(iterate 2 refine ym ?_);refine vy (y_eqi rfl rfl) ?_;refine ypf ?_
 all_goals
  refine ya ?_;refine et (vc_ret ?_);refine vr1 st Tryz.results85 ?_;exact ⟨by rw [Value.bool.injEq, Bool.eq_iff_iff]; simp only [isLetter, decide_eq_true_eq, true_iff, Bool.false_eq_true, false_iff]; omega, rfl⟩
theorem blank_any (c : UInt8) (w : World) : Ret Tryz.prog 115 [.int .u8 (c.toNat : Int)] w fun v w' => v = .bool (isBlank c) ∧ w' = w := by
 refine ret_of [_] Tryz.func115 rfl Tryz.ntmps115 rfl ?_;have st := St.init w [];refine a9 ?_;refine vmb ?_ ?_;intro hg5;(try simp only [dn] at hg5);refine a11 ?_
 rotate_left
 focus
  intro hg5;(try simp only [dn] at hg5);refine a3 ?_;refine vmb ?_ ?_;intro hg9;(try simp only [dn] at hg9);refine a7 ?_
  rotate_left
  focus
   intro hg9;(try simp only [dn] at hg9);refine a3 ?_;refine vmb ?_ ?_;intro hg13;(try simp only [dn] at hg13);refine a3 ?_
   rotate_left
   intro hg13;(try simp only [dn] at hg13);refine a3 ?_
 all_goals
  refine a4 ?_;refine vr1 st Tryz.results115 ?_;exact ⟨by rw [Value.bool.injEq, Bool.eq_iff_iff]; simp only [isBlank, decide_eq_true_eq, true_iff, Bool.false_eq_true, false_iff]; omega, rfl⟩
end Go.Proofs.YtjoepkpdanolkaaGreatDoor


namespace Go.Proofs.YtjoepkpdanolkaaGreatDoor
open Go.RowKit Sx LexS _root_.Go.Proofs.Tryz

set_option maxHeartbeats 1000000 in
theorem word_any (l : List UInt8) (w : World) : Ret Tryz.prog 89 [str l] w fun v w' => v = .bool (isWord l) ∧ w' = w := by
 refine ret_of [_] Tryz.func89 rfl Tryz.ntmps89 rfl ?_;have st := St.init w [];refine a16 ?_;refine a3 ?_;refine vif ?_ ?_;intro hc4;(try simp only [dn] at hc4);refine a11 ?_
 rotate_left
 focus
  intro hc4;(try simp only [dn] at hc4);refine a6 ?_;refine vif ?_ ?_;intro hc4;(try simp only [dn] at hc4);refine a11 ?_
  rotate_left
  focus
   intro hc4;(try simp only [dn] at hc4);refine a6 ?_;refine vif ?_ ?_;intro hc4;(try simp only [dn] at hc4);refine a11 ?_
   rotate_left
   focus
    intro hc4;(try simp only [dn] at hc4);refine a6 ?_;refine vif ?_ ?_;intro hc4;(try simp only [dn] at hc4);refine a11 ?_
    rotate_left
    focus
     intro hc4;(try simp only [dn] at hc4);refine a6 ?_;refine vif ?_ ?_;intro hc4;(try simp only [dn] at hc4);refine a11 ?_
     rotate_left
     focus
      intro hc4;(try simp only [dn] at hc4);refine a6 ?_;refine vif ?_ ?_;intro hc4;(try simp only [dn] at hc4);refine a11 ?_
      rotate_left
      focus
       intro hc4;(try simp only [dn] at hc4);refine a6 ?_;refine vif ?_ ?_;intro hc4;(try simp only [dn] at hc4);refine a11 ?_
       rotate_left
       focus
        intro hc4;(try simp only [dn] at hc4);refine a6 ?_;refine vif ?_ ?_;intro hc4;(try simp only [dn] at hc4);refine a11 ?_
        rotate_left
        focus
         intro hc4;(try simp only [dn] at hc4);refine a6 ?_;refine vif ?_ ?_;intro hc4;(try simp only [dn] at hc4);refine a11 ?_
         rotate_left
         focus
          intro hc4;(try simp only [dn] at hc4);refine a5 ?_;refine vif ?_ ?_;intro hc4;(try simp only [dn] at hc4);refine a8 ?_
          rotate_left
          intro hc4;(try simp only [dn] at hc4);refine a9 ?_
 all_goals
  refine vr1 st Tryz.results89 ?_;refine ⟨?_, rfl⟩;rw [Value.bool.injEq]
  first
  | (symm; simp only [isWord, decide_eq_true_eq]; simp only [wShared, wLock, wThread, wLocal, wIf, wElse, wWhile, wPrint, wSkip, wSwap]; simp only [*, true_or, or_true]; done)
  | (symm; simp only [isWord, decide_eq_false_iff_not]; simp only [wShared, wLock, wThread, wLocal, wIf, wElse, wWhile, wPrint, wSkip, wSwap]; simp only [*, or_self, not_false_eq_true])
end Go.Proofs.YtjoepkpdanolkaaGreatDoor


namespace Go.Proofs.YtjoepkpdanolkaaGreatDoor
open Go.RowKit Sx LexS _root_.Go.Proofs.Tryz
theorem isName_eq {l : List UInt8} (h0 : l ≠ []) (h1 : l.length ≤ 32) (h2 : isDigit (l.getD 0 0) = false) (h3 : isWord l = false) : isName l = l.all isIdent := by
 match l, h0 with
 | c :: r, _ => simp at h2 h1; simp [isName, h2, h3, h1]
theorem isName_nil {l : List UInt8} (h : l = []) : isName l = false := by subst h; rfl
theorem isName_long {l : List UInt8} (h : 32 < l.length) : isName l = false := by
 match l, h with
 | c :: r, h => simp only [isName]; rw [show decide ((c :: r).length ≤ 32) = false from by simp only [decide_eq_false_iff_not]; omega]; simp
theorem isName_digit {l : List UInt8} (h : isDigit (l.getD 0 0) = true) : isName l = false := by
 match l with
 | [] => rfl
 | c :: r => simp at h; simp [isName, h]
theorem isName_word {l : List UInt8} (h : isWord l = true) : isName l = false := by
 match l with
 | [] => rfl
 | c :: r => simp [isName, h]
theorem all_take_succ {p : UInt8 → Bool} {l : List UInt8} {m : Nat} (hm : m < l.length) (h : (l.take m).all p = true) (hp : p (l.getD m 0) = true) : (l.take (m + 1)).all p = true := by
 rw [List.take_add_one];have : l[m]? = some (l.getD m 0) := by simp [List.getD, hm]
 rw [this];simp only [List.all_append, h, Option.toList_some, List.all_cons, hp, List.all_nil, Bool.and_self]
theorem all_no {p : UInt8 → Bool} {l : List UInt8} {m : Nat} (hm : m < l.length) (hp : p (l.getD m 0) = false) : l.all p = false := by
 rw [List.all_eq_false];refine ⟨l.getD m 0, ?_, by rw [hp]; simp⟩;rw [show l.getD m 0 = l[m] from by simp [List.getD, hm]];exact List.getElem_mem hm
set_option maxHeartbeats 1000000 in
theorem name_any (l : List UInt8) (w : World) : Ret Tryz.prog 43 [str l] w fun v w' => v = .bool (isName l) ∧ w' = w := by
 refine ret_of [_] Tryz.func43 rfl Tryz.ntmps43 rfl ?_;have st := St.init w [];refine a10 ?_;refine vmb ?_ ?_;intro hg6;(try simp only [dn] at hg6);refine a16 ?_;refine a7 ?_;refine vr1 st Tryz.results43 ?_;refine ⟨?_, rfl⟩;rw [Value.bool.injEq]
 (symm; apply isName_nil; assumption)
 intro hg6;(try simp only [dn] at hg6);refine a1 ?_;refine vy (y_lens rfl Tryz.underlying9) ?_;refine a2 ?_;refine vmb ?_ ?_;intro hg11;(try simp only [dn] at hg11);refine a16 ?_;refine a2 ?_;refine vr1 st Tryz.results43 ?_;refine ⟨?_, rfl⟩;rw [Value.bool.injEq]
 (symm; apply isName_long; omega)
 intro hg11;(try simp only [dn] at hg11);refine a1 ?_;refine vy (y_ixs (k := 0) rfl rfl Tryz.underlying9 rfl (by (rcases l with _ | ⟨_, _⟩ <;> simp at * ))) ?_;refine vc_e (e_call [_] rfl rfl Tryz.call86 rfl (digit_any _ _) ?_);rintro _ w ⟨rfl, rfl⟩;refine a1 ?_;refine vmb ?_ ?_;intro hg16;(try simp only [dn] at hg16);refine a13 ?_;refine vr1 st Tryz.results43 ?_;refine ⟨?_, rfl⟩;rw [Value.bool.injEq]
 (symm; apply isName_digit; assumption)
 intro hg16;(try simp only [dn] at hg16);refine a1 ?_;refine vc_e (e_call [_] rfl rfl Tryz.call89 rfl (word_any _ _) ?_);rintro _ w ⟨rfl, rfl⟩;refine a3 ?_;refine vif ?_ ?_;intro hc19;(try simp only [dn] at hc19);refine a7 ?_;refine vr1 st Tryz.results43 ?_;refine ⟨?_, rfl⟩;rw [Value.bool.injEq]
 (symm; apply isName_word; assumption)
 intro hc19;(try simp only [dn] at hc19);refine a6 ?_;refine vy (y_lens rfl Tryz.underlying9) ?_;refine a4 ?_;refine vc_loop (w0 := _) (M := _) (fun (m : Nat) => [(0, str l), (21, .int .i64 (l.length : Int)), (22, .int .i64 (m : Int))]) (fun _ => []) (fun m w' => m ≤ l.length ∧ (l.take m).all isIdent = true ∧ w' = w) (fun m => l.length - m) 0 ⟨rfl, rfl, rfl, trivial⟩ st ⟨by omega, by simp, rfl⟩ ?_;rintro m w' ⟨hm, hall, rfl⟩ st;refine a6 ?_;refine vif ?_ ?_;intro hc23;(try simp only [dn] at hc23);refine a14 ?_;refine vy (y_ixs (k := _) rfl rfl Tryz.underlying9 rfl (by omega)) ?_;refine vc_e (e_call [_] rfl rfl Tryz.call85 rfl (letter_any _ _) ?_);rintro _ w ⟨rfl, rfl⟩;refine a1 ?_;refine vmb ?_ ?_;intro hg30;(try simp only [dn] at hg30);refine a2 ?_;refine vy (y_ixs (k := _) rfl rfl Tryz.underlying9 rfl (by omega)) ?_;refine vc_e (e_call [_] rfl rfl Tryz.call86 rfl (digit_any _ _) ?_);rintro _ w ⟨rfl, rfl⟩;refine a4 ?_;refine vif ?_ ?_;intro hc36;(try simp only [dn] at hc36);refine a11 ?_;refine vr1 st Tryz.results43 ?_;refine ⟨?_, rfl⟩;rw [Value.bool.injEq]
 (symm; rw [isName_eq (by assumption) (by omega) (by assumption) (by assumption)]; exact all_no (m := m) (by omega) (by simp only [isIdent, *, Bool.or_true, Bool.true_or, Bool.or_self]))
 intro hc36;(try simp only [dn] at hc36);refine a4 ?_;refine vy (y_add rfl rfl rfl (by omega) (by omega)) ?_;refine a2 ?_;refine vq_again (m + 1) ⟨rfl, rfl, rfl, trivial⟩ st ?_ ?_;exact ⟨by omega, all_take_succ (by omega) hall (by simp only [isIdent, *, Bool.or_true, Bool.true_or, Bool.or_self]), rfl⟩;omega;intro hg30;(try simp only [dn] at hg30);refine a13 ?_;refine vy (y_add rfl rfl rfl (by omega) (by omega)) ?_;refine a2 ?_;refine vq_again (m + 1) ⟨rfl, rfl, rfl, trivial⟩ st ?_ ?_;exact ⟨by omega, all_take_succ (by omega) hall (by simp only [isIdent, *, Bool.or_true, Bool.true_or, Bool.or_self]), rfl⟩;omega;intro hc23;(try simp only [dn] at hc23);refine a11 ?_;refine vr1 st Tryz.results43 ?_;refine ⟨?_, rfl⟩;rw [Value.bool.injEq]
 (symm; rw [isName_eq (by assumption) (by omega) (by assumption) (by assumption)]; rw [List.take_of_length_le (by omega)] at hall; exact hall)
end Go.Proofs.YtjoepkpdanolkaaGreatDoor


/- Blanks and remarks between tokens: no program in sight. -/
namespace LexS

end LexS


/- Tokens, their places left out: no program in sight. -/
namespace LexS
theorem scan_inv {r : List UInt8} {i : Nat} {t : Tok} {T : List Tok} {f : Option (Nat × Nat)} (h : scanA r i = (t :: T, f)) :
    skip r < r.length ∧ tokAt (r.drop (skip r)) (i + skip r) = .tok t ∧ scanA (r.drop (skip r + t.text.length)) (i + skip r + t.text.length) = (T, f) := by
  rcases Nat.lt_or_ge (skip r) r.length with hk | hk
  · cases hx : tokAt (r.drop (skip r)) (i + skip r) with
    | bad rule q => rw [scanA_bad hk hx] at h; simp at h
    | tok x =>
      rw [scanA_tok hk hx] at h
      simp only [Prod.mk.injEq, List.cons.injEq] at h
      obtain ⟨⟨rfl, h1⟩, h2⟩ := h
      exact ⟨hk, rfl, Prod.ext h1 h2⟩
  · rw [scanA_end hk] at h; simp at h
end LexS


/- Plain laws on tokens that are told: which are right, and that printed they are cut again. -/
namespace LexS
/-- the document's answer for a number's digits -/
def numV (l : List UInt8) : Option Nat := if l = [] ∨ (1 < l.length ∧ l.getD 0 0 = 48) ∨ l.all isDigit = false ∨ 9223372036854775807 < numVal l then none else some (numVal l)
theorem tw_all (p : UInt8 → Bool) : ∀ (l : List UInt8), (l.takeWhile p).all p = true
  | [] => rfl
  | c :: l => by
    rw [List.takeWhile_cons]
    split
    · rename_i h; simp [h, tw_all p l]
    · rfl
theorem digit_not_letter {c : UInt8} (h : isDigit c = true) : isLetter c = false := by
  simp only [isDigit, isLetter, decide_eq_true_eq, decide_eq_false_iff_not] at *; omega
/-- a token that is cut is right -/
theorem tok_right {r : List UInt8} {i : Nat} {x : Tok} (h : tokAt r i = .tok x) : (x.kind = 1 ∧ isName x.text = true ∧ x.word = 0) ∨ (x.kind = 2 ∧ isWord x.text = true ∧ x.word = 0) ∨ (x.kind = 3 ∧ numV x.text = some x.word) ∨ (x.kind = 4 ∧ isSign x.text = true ∧ x.word = 0) := by
  match r, h with
  | [], h => simp [tokAt] at h
  | c :: r, h =>
    simp only [tokAt] at h
    split at h
    · rename_i hc
      split at h
      · rename_i hw; cases h; exact .inr (.inl ⟨rfl, hw, rfl⟩)
      · rename_i hw
        split at h
        · cases h
        · rename_i hl
          cases h
          refine .inl ⟨rfl, ?_, rfl⟩
          have hi : isIdent c = true := by simp [isIdent, hc]
          have ha := tw_all isIdent (c :: r)
          have hnd : isDigit c = false := by
            simp only [isDigit, isLetter, decide_eq_true_eq, decide_eq_false_iff_not] at *; omega
          rw [List.takeWhile_cons, if_pos hi] at hw hl ha ⊢
          simp only [isName, hnd, ha, Bool.not_eq_true] at *
          simp only [hw]
          simp at hl ⊢
          omega
    · split at h
      · rename_i hc hd
        split at h
        · cases h
        · rename_i hn
          have key : numV ((c :: r).takeWhile isDigit) = some (numVal ((c :: r).takeWhile isDigit)) := by
            unfold numV
            rw [if_neg]
            have ha := tw_all isDigit (c :: r)
            rw [List.takeWhile_cons, if_pos hd] at hn ha ⊢
            rintro (h | h | h | h)
            · cases h
            · exact hn (.inl ⟨h.1, by simpa using h.2⟩)
            · rw [ha] at h; cases h
            · exact hn (.inr h)
          split at h
          · split at h
            · cases h
            · cases h; exact .inr (.inr (.inl ⟨rfl, key⟩))
          · cases h; exact .inr (.inr (.inl ⟨rfl, key⟩))
      · split at h
        · rename_i hs
          cases h; exact .inr (.inr (.inr ⟨rfl, by show isSign _ = true; unfold isSign; rw [hs]; rfl, rfl⟩))
        · split at h
          · rename_i hs
            cases h; exact .inr (.inr (.inr ⟨rfl, by simp [isSign, hs], rfl⟩))
          · cases h
end LexS


/- Plain laws on numbers as texts: they are cut as one number. -/
namespace LexS
def decF : Nat → Nat → List UInt8
  | 0, n => [UInt8.ofNat (48 + n % 10)]
  | k + 1, n => if n < 10 then [UInt8.ofNat (48 + n)] else decF k (n / 10) ++ [UInt8.ofNat (48 + n % 10)]
/-- a number's digits -/
def dec (n : Nat) : List UInt8 := decF n n
theorem decF_fuel : ∀ (k j n : Nat), n ≤ k → n ≤ j → decF k n = decF j n
  | 0, 0, n, _, _ => rfl
  | 0, j + 1, n, h, _ => by
    obtain rfl : n = 0 := by omega
    simp [decF]
  | k + 1, 0, n, _, h => by
    obtain rfl : n = 0 := by omega
    simp [decF]
  | k + 1, j + 1, n, h1, h2 => by
    simp only [decF]
    split
    · rfl
    · rw [decF_fuel k j (n / 10) (by omega) (by omega)]
theorem dec_small {n : Nat} (h : n < 10) : dec n = [UInt8.ofNat (48 + n)] := by
  unfold dec
  cases n with
  | zero => rfl
  | succ n => simp only [decF]; rw [if_pos h]
theorem dec_big {n : Nat} (h : 10 ≤ n) : dec n = dec (n / 10) ++ [UInt8.ofNat (48 + n % 10)] := by
  unfold dec
  obtain ⟨m, rfl⟩ : ∃ m, n = m + 1 := ⟨n - 1, by omega⟩
  simp only [decF]
  rw [if_neg (by omega), decF_fuel m ((m + 1) / 10) _ (by omega) (by omega)]
theorem digit_of {d : Nat} (h : d < 10) : isDigit (UInt8.ofNat (48 + d)) = true ∧ (UInt8.ofNat (48 + d)).toNat = 48 + d := by
  have e : (UInt8.ofNat (48 + d)).toNat = 48 + d := by
    rw [UInt8.toNat_ofNat']; omega
  refine ⟨?_, e⟩
  simp only [isDigit, decide_eq_true_eq, e]; omega
theorem dec_ind (P : Nat → Prop) (h1 : ∀ n, n < 10 → P n) (h2 : ∀ n, 10 ≤ n → P (n / 10) → P n) (n : Nat) : P n := by
  induction n using Nat.strongRecOn with
  | _ n ih =>
    rcases Nat.lt_or_ge n 10 with h | h
    · exact h1 n h
    · exact h2 n h (ih (n / 10) (by omega))
theorem dec_all (n : Nat) : (dec n).all isDigit = true := by
  refine dec_ind (fun n => (dec n).all isDigit = true) (fun n h => ?_) (fun n h ih => ?_) n
  · rw [dec_small h, List.all_cons, (digit_of h).1]; rfl
  · rw [dec_big h, List.all_append, ih, List.all_cons, (digit_of (Nat.mod_lt n (by omega : 0 < 10))).1]; rfl
theorem dec_val (n : Nat) : numVal (dec n) = n := by
  refine dec_ind (fun n => numVal (dec n) = n) (fun n h => ?_) (fun n h ih => ?_) n
  · rw [dec_small h]; simp only [numVal, List.foldl_cons, List.foldl_nil, (digit_of h).2]; omega
  · rw [dec_big h, numVal_snoc, ih, (digit_of (Nat.mod_lt n (by omega : 0 < 10))).2]; omega
theorem dec_pos (n : Nat) : 1 ≤ (dec n).length := by
  refine dec_ind (fun n => 1 ≤ (dec n).length) (fun n h => ?_) (fun n h ih => ?_) n
  · rw [dec_small h]; simp
  · rw [dec_big h]; simp
theorem dec_len (k : Nat) : ∀ n, n < 10 ^ (k + 1) → (dec n).length ≤ k + 1 := by
  induction k with
  | zero => intro n h; rw [dec_small (by simpa using h)]; simp
  | succ k ih =>
    intro n h
    rcases Nat.lt_or_ge n 10 with h1 | h1
    · rw [dec_small h1]; simp
    · rw [dec_big h1]
      have := ih (n / 10) (by rw [Nat.div_lt_iff_lt_mul (by omega)]; rw [Nat.pow_succ] at h; exact h)
      simp; omega
theorem dec_head (n : Nat) : 10 ≤ n → (dec n).getD 0 0 ≠ 48 ∧ True := by
  have key : ∀ n, 1 ≤ n → (dec n).getD 0 0 ≠ 48 := by
    refine dec_ind (fun n => 1 ≤ n → (dec n).getD 0 0 ≠ 48) (fun n h h1 => ?_) (fun n h ih h1 => ?_)
    · rw [dec_small h]
      intro e
      have e2 := congrArg UInt8.toNat (by simpa using e : UInt8.ofNat (48 + n) = 48)
      rw [(digit_of h).2] at e2
      simp at e2; omega
    · rw [dec_big h]
      have hp := dec_pos (n / 10)
      have := ih (by omega)
      simp only [List.getD] at this ⊢
      rw [List.getElem?_append_left (by omega)]
      exact this
  exact fun h => ⟨key n (by omega), trivial⟩
theorem dec_lead (n : Nat) (c : UInt8) (r : List UInt8) (h : dec n = c :: r) : ¬(1 < (dec n).length ∧ c = 48) := by
  rintro ⟨h1, rfl⟩
  have h10 : 10 ≤ n := by
    rcases Nat.lt_or_ge n 10 with h2 | h2
    · rw [dec_small h2] at h1; simp at h1
    · exact h2
  exact (dec_head n h10).1 (by rw [h]; rfl)
theorem skip_dec (n : Nat) (Z : List UInt8) : skip (dec n ++ Z) = 0 := by
  have hp := dec_pos n
  have ha := dec_all n
  obtain ⟨c, r, hd⟩ : ∃ c r, dec n = c :: r := by
    match hq : dec n, hp with
    | c :: r, _ => exact ⟨c, r, rfl⟩
  have hc : isDigit c = true := by rw [hd, List.all_cons, Bool.and_eq_true] at ha; exact ha.1
  have hcn : 48 ≤ c.toNat ∧ c.toNat ≤ 57 := by simpa [isDigit] using hc
  rw [hd, List.cons_append]
  refine skip_other (by simp only [isBlank, decide_eq_false_iff_not]; omega) ?_
  cases hr : r ++ Z with
  | nil => rfl
  | cons d q =>
    simp only [isRem, decide_eq_false_iff_not]
    rintro ⟨rfl, -⟩
    simp at hcn
/-- a word's text -/
def shw (w : Int) : List UInt8 := if w < 0 then 45 :: dec w.natAbs else dec w.natAbs
end LexS


/- The operators, their signs and levels: no program in sight. -/
namespace LexS
/-- the operators' signs and levels -/
def sgnT : List (List UInt8 × Int) := [([], 0), ([43], 7), ([45], 7), ([42], 8), ([47], 8), ([37], 8), ([38], 3), ([124], 1), ([94], 2), ([60, 60], 6), ([62, 62], 6), ([61, 61], 4), ([33, 61], 4), ([60], 5), ([60, 61], 5), ([62], 5), ([62, 61], 5), ([45], 9), ([33], 9)]
def sgn (k : Nat) : List UInt8 := (sgnT.getD k ([], 0)).1
def lvl (k : Nat) : Int := (sgnT.getD k ([], 0)).2
def knownOp (k : Int) : Bool := decide (0 < k ∧ k < 19)
def twoOp (k : Int) : Bool := decide (0 < k ∧ k < 17)
def shwO (k : Int) : List UInt8 := if knownOp k = true then sgn k.toNat else []
def lvlO (k : Int) : Int := if knownOp k = true then lvl k.toNat else 0
theorem shwO_len' : ∀ m, m < 19 → (sgn m).length ≤ 2 := by decide
theorem shwO_len (k : Int) : (shwO k).length ≤ 2 := by
  unfold shwO
  split
  · rename_i h
    simp [knownOp] at h
    exact shwO_len' _ (by omega)
  · simp
def oneOp (k : Int) : Bool := decide (k = 17 ∨ k = 18)
/-- the operator of two with a sign -/
def findO (s : List UInt8) : Option Nat := (List.range 19).find? fun k => twoOp (k : Int) && decide (sgn k = s)
end LexS


namespace Go.Proofs.YtjoepkpdanolkaaGreatDoor
open Go.RowKit Sx LexS _root_.Go.Proofs.Tryz
/-- the table of signs lies where the program has it -/
def Sig (w : World) : Prop := ∀ k, k < 19 → w.cell? ⟨0, k * 2, none⟩ = some (str (sgn k)) ∧ w.cell? ⟨0, k * 2 + 1, none⟩ = some (.int .i64 (lvl k))
theorem Sig.kept {w w' : World} (h : Sig w) (c : Chg [] w w') : Sig w' := fun k hk => ⟨c.cell (h k hk).1 (by simp), c.cell (h k hk).2 (by simp)⟩

theorem known_any (k : Int) (w : World) : Ret Tryz.prog 41 [.int .u8 k] w fun v w' => v = .bool (knownOp k) ∧ w' = w := by
 refine ret_of [_] Tryz.func41 rfl Tryz.ntmps41 rfl ?_;have st := St.init w [];refine a9 ?_;refine vmb ?_ ?_;intro hg5;(try simp only [dn] at hg5);refine a3 ?_
 rotate_left
 intro hg5;(try simp only [dn] at hg5);refine a3 ?_
 all_goals
  refine a4 ?_;refine vr1 st Tryz.results41 ?_;refine ⟨?_, rfl⟩;congr 1;unfold knownOp
  (symm; simp; omega)
theorem two_any (k : Int) (w : World) : Ret Tryz.prog 32 [.int .u8 k] w fun v w' => v = .bool (twoOp k) ∧ w' = w := by
 refine ret_of [_] Tryz.func32 rfl Tryz.ntmps32 rfl ?_;have st := St.init w [];refine a8 ?_;refine vc_e (e_call [_] rfl rfl Tryz.call41 rfl (known_any _ _) ?_);rintro _ _ ⟨rfl, rfl⟩;refine vmb ?_ ?_
 focus
  intro hg5;refine a3 ?_;refine vmb ?_ ?_;intro hg9;refine a3 ?_
  rotate_left
  intro hg9;refine a3 ?_
 rotate_left 2
 intro hg5;refine a7 ?_
 all_goals
  refine a4 ?_;refine vr1 st Tryz.results32 ?_;refine ⟨?_, rfl⟩;show Value.bool _ = Value.bool _;congr 1;unfold knownOp at *;unfold twoOp;simp only [decide_eq_true_eq, decide_eq_false_iff_not, Bool.not_eq_true', Bool.not_eq_false'] at *
  first | (symm; rw [decide_eq_false_iff_not]; omega) | (rw [Bool.eq_iff_iff]; simp only [Bool.not_eq_true', decide_eq_false_iff_not, decide_eq_true_eq]; omega)
theorem show_any (k : Int) (w : World) (hs : Sig w) : Ret Tryz.prog 45 [.int .u8 k] w fun v w' => v = str (if knownOp k = true then sgn k.toNat else []) ∧ w' = w := by
 refine ret_of [_] Tryz.func45 rfl Tryz.ntmps45 rfl ?_;have st := St.init w [];refine a9 ?_;refine vc_e (e_call [_] rfl rfl Tryz.call41 rfl (known_any _ _) ?_);rintro _ _ ⟨rfl, rfl⟩;refine a3 ?_;refine vif ?_ ?_;intro hc5;refine a7 ?_;refine vr1 st Tryz.results45 ?_;refine ⟨?_, rfl⟩;rw [if_neg (by simpa using hc5)];intro hc5;have hk : 0 < k ∧ k < 19 := by simpa [knownOp] using hc5
 obtain ⟨m, rfl⟩ : ∃ m : Nat, k = (m : Int) := ⟨k.toNat, by omega⟩
 refine a5 ?_;refine vy (y_iaa (k := m) rfl rfl Tryz.underlying160 Tryz.sizeOf159 rfl (by omega)) ?_;refine vy (y_fa0 rfl Tryz.underlying159 rfl rfl Tryz.sizeOf9 rfl) ?_;refine vy ((by exact y_ldc rfl Tryz.isAgg9 (by have h := (hs m (by omega)).1; rw [Nat.zero_add]; exact h))) ?_;refine a4 ?_;refine vr1 st Tryz.results45 ?_;refine ⟨?_, rfl⟩;rw [if_pos (by simpa using hc5)];rfl
abbrev zs (k : Nat) : List Value := List.replicate k (.int .u8 0)
theorem zs_set (k : Nat) (t : List UInt8) (c : UInt8) (x : Int) (hx : (c.toNat : Int) = x) (hk : 0 < k) : (zs k ++ bytesL t).set (k - 1) (.int .u8 x) = zs (k - 1) ++ bytesL (c :: t) := by
 obtain ⟨m, rfl⟩ : ∃ m, k = m + 1 := ⟨k - 1, by omega⟩
 have e : zs (m + 1) = zs m ++ [.int .u8 0] := by simp [zs, List.replicate_succ']
 rw [e, Nat.add_sub_cancel, List.append_assoc, List.set_append_right _ _ (by simp)];subst hx;simp
theorem zs_len (k : Nat) (t : List UInt8) : (zs k ++ bytesL t).length = k + t.length := by simp
theorem blk_rd {w : World} {b k E : Nat} {t : List UInt8} {c : Nat} (h : w.heap[b]? = some (.cells (zs k ++ bytesL t).toArray E (0, 0))) : RdRowP w (some ⟨b, 0 + k * 1, none⟩) c (bytesL t) :=
 .inr ⟨b, 0 + k * 1, rfl, fun j u hj => cell_blk h (by
   rw [nth_eq, List.getElem?_append_right (by simp)]
   simpa [show 0 + k * 1 + j - k = j by omega] using hj)⟩

set_option maxHeartbeats 1000000 in
theorem wprint_any (x : Int) (w : World) (hx : -9223372036854775808 ≤ x ∧ x ≤ 9223372036854775807) : Ret Tryz.prog 16 [.int .i64 x] w fun v w' => v = str (shw x) ∧ Chg [] w w' := by
 refine ret_of [_] Tryz.func16 rfl Tryz.ntmps16 rfl ?_;have st := St.init w [];obtain ⟨w0, rfl⟩ : ∃ w0, w0 = w := ⟨_, rfl⟩
 have hdl := dec_len 18 x.natAbs (by simp only [Nat.reducePow, Nat.reduceAdd]; omega);refine sr ?_;refine ya ?_;refine et (vk1 0 (sr ?_));refine vc_e (e_al (l := [_, _, _, _, _, _, _, _, _, _, _, _, _, _, _, _, _, _, _, _]) st rfl rfl Tryz.zeroValue125 rfl ?_);intro b3 w hb3 st;refine et (vk2 0 3 (sr ?_));refine ya ?_;refine et (vk3 0 3 4 (sr ?_));refine ym ?_;refine vy (y_cvi rfl Tryz.underlying126 Tryz.underlying2 (rfl : _ = IntKind.u64.wrap x)) ?_;refine ya ?_;refine et (vk4 0 3 4 5 ?_);refine vc_cut (w0 := w0) (M := []) (fun (_ : Unit) => [(0, .int .i64 x), (3, .pointer (some ⟨b3, 0, none⟩)), (4, .int .i64 20), (5, .int .u64 (x.natAbs : Int))]) (fun _ => [.blk b3 (.cells (zs 20 ++ bytesL []).toArray 125 (0, 0))]) (fun _ _ => True) ?_ ?_;refine vc_seq ?_;refine vc_region ?_;refine ym ?_;refine vy (y_lss rfl rfl) ?_;refine et (vk5 0 3 4 5 9 ?_);refine vif ?_ ?_;intro hc9;(try simp only [dn] at hc9);refine vc_region ?_;refine ym ?_;refine vy (y_neg rfl (by rw [wrap_u64, wrap_u64]; omega : _ = (x.natAbs : Int))) ?_;refine ya ?_;refine vc_end ?_;exact vq_meet () ⟨rfl, rfl, rfl, rfl, trivial⟩ st trivial;intro hc9;(try simp only [dn] at hc9);refine vc_code_skip ?_;exact vq_meet () ⟨rfl, rfl, rfl, by simp only [find, Nat.beq]; congr 2; rw [wrap_u64]; omega, trivial⟩ st trivial;clear st;rintro ⟨⟩ w - st;refine vc_seq (vc_block ?_);refine vc_loop (w0 := _) (M := _) (fun (y : Nat × Nat × List UInt8) => [(0, .int .i64 x), (3, .pointer (some ⟨b3, 0, none⟩)), (4, .int .i64 (y.1 : Int)), (5, .int .u64 (y.2.1 : Int))]) (fun y => [.blk b3 (.cells (zs y.1 ++ bytesL y.2.2).toArray 125 (0, 0))]) (fun y _ => y.1 + y.2.2.length = 20 ∧ dec y.2.1 ++ y.2.2 = dec x.natAbs ∧ y.2.1 ≤ x.natAbs) (fun y => y.1) (20, x.natAbs, []) ⟨rfl, rfl, rfl, rfl, trivial⟩ st ⟨rfl, by simp, by simp⟩ ?_;rintro ⟨at_, n, t⟩ w ⟨hat, hdec, hnx⟩ st;dsimp only at *;have hdp := dec_pos n;have hlen := congrArg List.length hdec;rw [List.length_append] at hlen;obtain ⟨hdg1, hdg2⟩ := digit_of (Nat.mod_lt n (by omega : 0 < 10));refine vc_block (sr ?_);refine ym ?_;refine vy (y_sub rfl rfl (by omega : _ = ((at_ - 1 : Nat) : Int)) (by omega) (by omega)) ?_;refine ya ?_;refine et (vk4 0 3 4 5 (sr ?_));(iterate 2 refine ym ?_);refine vy (y_remk rfl rfl (by omega) (by omega) (by omega : _ = ((n % 10 : Nat) : Int))) ?_;refine vy (y_addk rfl rfl (by rw [wrap_u64]; omega : _ = ((48 + n % 10 : Nat) : Int))) ?_;refine vy (y_cvi rfl Tryz.underlying5 Tryz.underlying126 (by rw [wrap_u8]; omega : _ = ((48 + n % 10 : Nat) : Int))) ?_;refine vy (y_iaa (k := (at_ - 1)) rfl rfl Tryz.underlying125 Tryz.sizeOf5 rfl (by omega)) ?_;refine vc_e (e_sta (l' := zs (at_ - 1) ++ bytesL (UInt8.ofNat (48 + n % 10) :: t)) st 0 rfl rfl rfl rfl Tryz.sizeOf5 rfl (by rw [zs_len]; omega) (by rw [show 0 + (at_ - 1) * 1 = at_ - 1 by omega]; exact zs_set at_ t (UInt8.ofNat (48 + n % 10)) _ (by rw [hdg2]) (by omega)) (.inr hb3) ?_);intro w st; dsimp only [setNth] at st;refine et (vk4 0 3 4 5 (sr ?_));refine ym ?_
 refine vy (y_quok rfl rfl (by omega) (by omega) (by rw [wrap_u64]; omega : _ = ((n / 10 : Nat) : Int))) ?_;refine ya ?_;refine et (vk4 0 3 4 5 (sr ?_));refine ym ?_;refine vy (y_eqi rfl rfl) ?_;refine et (vk5 0 3 4 5 23 ?_);refine vif ?_ ?_;intro hc23;(try simp only [dn] at hc23);have hn : n < 10 := by omega
 have hfin : UInt8.ofNat (48 + n % 10) :: t = dec x.natAbs := by rw [← hdec, dec_small hn, Nat.mod_eq_of_lt hn]; rfl
 rw [hfin] at st;have hlen2 := congrArg List.length hfin;simp only [List.length_cons] at hlen2;refine vc_exit (vq_block_other rfl (vq_then_exit (vq_block_exit (vq_then (vk3 0 3 4 (vc_seq (sr ?_)))))));refine ym ?_;refine vy (y_lss rfl rfl) ?_;refine et (vk3 3 4 25 ?_);refine vif ?_ ?_;intro hc25;(try simp only [dn] at hc25);refine sr ?_;refine ym ?_;refine vy (y_sub rfl rfl (by omega : _ = ((at_ - 2 : Nat) : Int)) (by omega) (by omega)) ?_;refine ya ?_;refine et (vk2 3 4 (vc_region ?_));refine ym ?_;refine vy (y_iaa (k := (at_ - 2)) rfl rfl Tryz.underlying125 Tryz.sizeOf5 rfl (by omega)) ?_;refine vc_e (e_sta (l' := zs (at_ - 2) ++ bytesL (45 :: dec x.natAbs)) st 0 rfl rfl rfl rfl Tryz.sizeOf5 rfl (by rw [zs_len]; omega) (by rw [show 0 + (at_ - 2) * 1 = (at_ - 1) - 1 by omega]; have := zs_set (at_ - 1) (dec x.natAbs) 45 45 (by rfl) (by omega); rw [show at_ - 1 - 1 = at_ - 2 by omega] at this ⊢; exact this) (.inr hb3) ?_);intro w st; dsimp only [setNth] at st;refine et (vk2 3 4 (sr ?_));refine ym ?_;refine vy (y_sla (i := _) rfl rfl Tryz.underlying125 Tryz.sizeOf5 rfl (by omega)) ?_;refine vy (y_b2s rfl (blk_rd (st.res (i := 0) rfl)) (by (simp only [List.length_cons]; omega)) Tryz.underlying77 Tryz.underlying5 Tryz.underlying9) ?_;refine ya ?_;refine et (vk1 2 (vc_ret ?_));refine vr1 st Tryz.results16 ?_;refine ⟨?_, st.chg⟩;unfold shw;rw [if_pos (by omega)];intro hc25;(try simp only [dn] at hc25);refine kt (vk2 3 4 (sr ?_));refine ym ?_;refine vy (y_sla (i := _) rfl rfl Tryz.underlying125 Tryz.sizeOf5 rfl (by omega)) ?_;refine vy (y_b2s rfl (blk_rd (st.res (i := 0) rfl)) (by omega) Tryz.underlying77 Tryz.underlying5 Tryz.underlying9) ?_;refine ya ?_;refine et (vk1 2 (vc_ret ?_));refine vr1 st Tryz.results16 ?_;refine ⟨?_, st.chg⟩;unfold shw;rw [if_neg (by omega)];intro hc23;(try simp only [dn] at hc23);refine vc_code_skip (vq_block ?_);refine vq_again (at_ - 1, n / 10, UInt8.ofNat (48 + n % 10) :: t)  ⟨rfl, rfl, rfl, rfl, trivial⟩ st ?_ ?_;refine ⟨by simp; omega, ?_, by dsimp only; omega⟩;dsimp only;rw [← hdec, dec_big (n := n) (by omega)]; simp;dsimp only; omega
end Go.Proofs.YtjoepkpdanolkaaGreatDoor

