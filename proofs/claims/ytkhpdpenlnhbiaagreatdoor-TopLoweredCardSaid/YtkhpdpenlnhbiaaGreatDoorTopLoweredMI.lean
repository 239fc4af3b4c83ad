/- stilelaw04.TopLowered returns true for every argument. Condition: none. -/
import Derived.Test.YtkhpdpenlnhbiaaGreatDoorCards
import Derived.Test.YtkhpdpenlnhbiaaGreatDoorTie
import Derived.WalkKit
import Derived.ProofKit
import Derived.OpenShut
import Derived.ShutString
import Derived.Deep.DeepHandedRow
import Derived.Lib.LaidTab
import Derived.ChangeOld
import Derived.Test.YtkhpdpenlnhbiaaGreatDoorTopLoweredMH
namespace Go.Proofs.YtkhpdpenlnhbiaaGreatDoor
open Go.ChangeShapes Go.WideShapes Go.ChangeAt Go.RowKit
open Go.ChangeMaps (open_string shut_string)
open Sx LexS ParS
set_option linter.unusedVariables false
set_option linter.unusedSimpArgs false

theorem gSig : Tryz.prog.globalNamed "stile/words.signs" = some 1 := by kernel_rfl
theorem gSigT : (Tryz.prog.globals[1]?).map (·.type) = some 219 := by kernel_rfl
theorem laid_sgn {H : Type} : (Rows.laid_stile_words_signs : DataW H) = .agg (sgnT.map fun p => .agg [.lit (.string p.1), .lit (.int .i64 p.2)]) := rfl
/-- what the row's list gives: the table of signs lies there -/
theorem sig_of {W : World} (h : laidMet Tryz.prog [("stile/words.signs", Rows.laid_stile_words_signs)] W) : SigAt 1 W := by
  obtain ⟨ps, ⟨g', t', cs, fuel, p, q, hg', ht', hvar, hd, _, _⟩, _⟩ := h
  obtain rfl := Option.some.inj (gSig.symm.trans hg')
  obtain rfl := Option.some.inj (gSigT.symm.trans ht')
  have c1 : Tryz.prog.cellsOf 219 = 38 := by kernel_rfl
  have c2 : Tryz.prog.cellsOf 218 = 2 := by kernel_rfl
  have c3 : Tryz.prog.cellsOf 9 = 1 := by kernel_rfl
  have c4 : Tryz.prog.cellsOf 3 = 1 := by kernel_rfl
  obtain ⟨xs, m, -, hx, hl, hxl, hf⟩ := DataW.trod_array Tryz.underlying219 hd
  rw [laid_sgn] at hx
  simp only [Prod.mk.injEq, DataW.agg.injEq] at hx
  intro k hk
  have hxk := hf k hk
  have hk' : k < xs.length := by omega
  rw [List.getElem?_eq_getElem hk'] at hxk
  have hy : xs[k].1 = .agg [.lit (.string (sgn k)), .lit (.int .i64 (lvl k))] := by
    have e := congrArg (·[k]?) hx.1
    have hkk : k < sgnT.length := hk
    simp only [List.getElem?_map, List.getElem?_eq_getElem hk', List.getElem?_eq_getElem hkk, Option.map_some, Option.some.injEq] at e
    rw [← e]
    simp only [sgn, lvl, List.getD, List.getElem?_eq_getElem hkk, Option.getD_some]
  obtain ⟨zs', m2, -, hz, hzl, hzn, hzf⟩ := DataW.trod_struct Tryz.underlying218 hxk
  have h0 := hzf 0 _ rfl
  have h1 := hzf 1 _ rfl
  rw [hz] at hy
  match zs', hzn with
  | [z0, z1], _ =>
    simp only [List.map_cons, List.map_nil, DataW.agg.injEq, List.cons.injEq, and_true] at hy
    simp only [c2, c3, c4, List.getElem?_cons_zero, List.getElem?_cons_succ, List.drop_zero] at h0 h1
    obtain ⟨s, e0, d0, -⟩ := DataW.trod_string Tryz.underlying9 h0
    obtain ⟨l, e1, d1, -⟩ := DataW.trod_int Tryz.underlying3 h1
    rw [d0, d1] at hy
    simp only [DataW.lit.injEq, Lit.string.injEq, Lit.int.injEq, true_and] at hy
    have hlen : cs.size = 38 := by simpa [c1] using hl
    have p0 : cs.toList[k * 2]? = some (.string s) := by
      have := congrArg (·[0]?) e0
      simp [List.getElem?_take, List.getElem?_drop] at this
      simpa using this.2
    have p1 : cs.toList[k * 2 + 1]? = some (.int .i64 l) := by
      have := congrArg (·[0]?) e1
      simp [List.getElem?_take, List.getElem?_drop] at this
      simpa using this.2
    have hcell := fun i => World.var?_cell gSig hvar i
    refine ⟨?_, ?_⟩
    · rw [hcell (k * 2)]
      rw [← hy.1]
      simpa using p0
    · rw [hcell (k * 2 + 1)]
      rw [← hy.2]
      simpa using p1
/-- a world for the witness: the settled one, the table holding what its initialiser lays -/
noncomputable def laidWorld (os : Os) : World :=
  { World.holding Tryz.prog os ⟨#[], #[], []⟩ with heap := (World.holding Tryz.prog os ⟨#[], #[], []⟩).heap.modify 1 fun
      | .cells _ t frozen => .cells (sgnT.flatMap fun p => [str p.1, .int .i64 p.2]).toArray t frozen
      | o => o }

theorem ownTopLowered : ownKnob Tryz.prog.godebug = none := by kernel_rfl
theorem laidOutTopLowered : laidOutB Tryz.prog = true := by kernel_rfl
set_option maxRecDepth 100000 in
theorem contractTopLowered (H : Type) (enc : TypeId × Value → H) (W : World) (base : Nat) (args : Array Value) (ds gs : List (DataW H)) (before : List MemPlace)
    (hval0 : ∀ (j : Nat) t v, Tryz.f3.params[j]? = some t → args[j]? = some v → Value.okWide Tryz.prog W .any base t v)
    (hW : DataW.Whole enc Tryz.prog Tryz.f3.params.toList Rows.topLoweredSpec.vars false W args.toList ds gs before) (hL : laidMetH Tryz.prog Rows.topLoweredRow.laid W) :
    Calls Tryz.prog 3 args W fun e W' => ∃ v, e = .returned v ∧ Rows.topLoweredSpec.post enc Tryz.prog Tryz.f3 false true false false W args v W' := by
  have hval : ∀ (j : Nat) t v, Tryz.f3.params[j]? = some t → args[j]? = some v → Value.okWide Tryz.prog W .any base t v := hval0
  have hW' := hW
  have hlt := hW.lt
  have hsig : SigAt 1 W := sig_of hL
  obtain ⟨p, q, hA0, hV, rfl, hfz, hnd⟩ := hW
  have hA : DataW.TrodAll enc Tryz.prog W 0 (fun _ => true) true Tryz.f3.params.toList args.toList ds p := hA0
  have hshut : ∀ W', Below W.heap.size W W' → DataW.TrodAll enc Tryz.prog W' 0 (fun b => decide (b < W.heap.size)) true Tryz.f3.params.toList args.toList ds p := fun W' hb => Sx.trodAll_shut laidOutTopLowered hb (by kernel_rfl) hA (fun x hx => hlt x (List.mem_append.2 (.inl hx)))
  rw [Tryz.params3] at hA hval
  obtain ⟨v0, vs0, d0, ds0, p0, q0, hargs, rfl, rfl, h0, r0⟩ := trodAll_cons hA
  obtain ⟨v1, vs1, d1, ds1, p1, q1, rfl, rfl, rfl, h1, r1⟩ := trodAll_cons r0
  obtain ⟨v2, vs2, d2, ds2, p2, q2, rfl, rfl, rfl, h2, r2⟩ := trodAll_cons r1
  obtain ⟨rfl, rfl, rfl⟩ := trodAll_nil r2
  obtain rfl : args = #[v0, v1, v2] := by cases args; simp_all
  obtain ⟨rfl, rfl⟩ := trodVars_none hV
  obtain ⟨a0, rfl, rfl, rfl, w0⟩ := open_string Tryz.underlying9 (hval 0 9 v0 rfl rfl) h0
  obtain ⟨a1, rfl, rfl, rfl, w1⟩ := open_string Tryz.underlying9 (hval 1 9 v1 rfl rfl) h1
  obtain ⟨a2, rfl, rfl, rfl, w2⟩ := open_string Tryz.underlying9 (hval 2 9 v2 rfl rfl) h2
  clear hA0 hval0
  have hwalk := lawTopLowered a0.data.toList a1.data.toList a2.data.toList W hsig
  refine Calls.mono hwalk fun e W' ⟨u, he, hu, hc⟩ => ?_
  subst he
  subst hu
  have bel := hc.below
  exact ⟨_, rfl, _, _, _, [], _, [], hW', trodAll_mk1 (shut_bool Tryz.underlying4 _), hshut W' bel, rfl, bel.frame _, fun h => by cases h⟩
theorem laid_metTopLowered (os : Os) : laidMet Tryz.prog Rows.topLoweredRow.laid ((laidWorld os).forCall (fun _ _ => 0) ⟨#[], #[.string ⟨#[]⟩, .string ⟨#[]⟩, .string ⟨#[]⟩], []⟩).memory :=
  laidMet_of_run' 8 (by kernel_rfl) (by kernel_rfl)
theorem readsTopLowered (os : Os) {H : Type} (enc : TypeId × Value → H) : ∃ places, DataW.whole enc Tryz.prog ((laidWorld os).forCall (fun _ _ => 0) ⟨#[], #[.string ⟨#[]⟩, .string ⟨#[]⟩, .string ⟨#[]⟩], []⟩).memory Tryz.f3.params.toList Rows.topLoweredSpec.vars false (#[.string ⟨#[]⟩, .string ⟨#[]⟩, .string ⟨#[]⟩] : Array Value).toList 8 = some ([.lit (.string []), .lit (.string []), .lit (.string [])], [], places) :=
  ⟨[], by kernel_rfl⟩
set_option maxRecDepth 100000 in
theorem liftedTopLowered (os : Os) (started : os.Started) (H : Type) (enc : TypeId × Value → H) (F : Stop.Interp) :
    ReturnsInHanded {} Tryz.checked os 3 .any ((OpenSpec.ofChange Rows.topLoweredSpec).preRow enc Tryz.prog Tryz.f3 Rows.topLoweredRow.domain false Rows.topLoweredRow.laid) (((OpenSpec.ofChange Rows.topLoweredSpec).at F).post enc Tryz.prog Tryz.f3 false true false false) := by
  obtain ⟨places, hx⟩ := readsTopLowered os enc
  refine returnsInHanded_of_row (C := Tryz.checked) (s := OpenSpec.ofChange Rows.topLoweredSpec) ownTopLowered started (by kernel_rfl) Tryz.func3
    (witness_row_at (enc := enc) (C := Tryz.checked) false (laidWorld os) #[.string ⟨#[]⟩, .string ⟨#[]⟩, .string ⟨#[]⟩] rfl (by kernel_rfl) (by kernel_rfl) (by kernel_rfl)
      (OpenSpec.preRow_of_cond 8 hx (by kernel_rfl) (fun k hk => by cases hk) (by kernel_rfl) (laid_metTopLowered os))) ?_
  intro W base args ds gs before hval hW _ _ _ hL _ _
  exact contractTopLowered H enc W base args ds gs before hval hW hL
theorem saidTopLowered : Rows.TopLoweredSaid :=
  OpenClaim.holds_of_cond 3 Tryz.f3 rfl rfl rfl rfl rfl rfl rfl ⟨rfl, rfl, rfl, rfl, rfl⟩ rfl rfl rfl rfl rfl (by kernel_rfl) Tryz.func3 (by kernel_rfl)
    (of_decide_eq_true (by kernel_rfl)) (by unfold Func.isWrapper; first | (rw [if_pos (by decide +kernel)]; kernel_rfl) | (rw [if_neg (by decide +kernel)]; exact ⟨rfl, rfl⟩))
    (fun os started H enc _ F => by rw [OpenClaim.pre_eq_preRow]; exact liftedTopLowered os started H enc F)
theorem plainTopLowered (f : FuncId) (fn : Func) (hf : Tryz.pinned.checked.prog.funcNamed "stile/stiletop.TopLowered" = some f) (hfn : Tryz.pinned.checked.prog.funcs[f]? = some fn) :
    true = Tryz.pinned.checked.prog.looks [] ∧ ∀ (j : Nat) t, fn.params[j]? = some t → Tryz.pinned.checked.prog.wantsStandIn t = false := by
  obtain rfl : f = 3 := Option.some.inj ((show Tryz.prog.funcNamed "stile/stiletop.TopLowered" = some 3 by kernel_rfl).symm.trans hf) |>.symm
  obtain rfl : fn = Tryz.f3 := (Option.some.inj (Tryz.func3.symm.trans hfn)).symm
  refine ⟨by kernel_rfl, fun j t ht => ?_⟩
  have hall : (Tryz.f3.params.toList.all fun t => !Tryz.prog.wantsStandIn t) = true := by kernel_rfl
  have hm := List.all_eq_true.1 hall t (by simpa using Array.mem_of_getElem? ht)
  have : Tryz.prog.wantsStandIn t = false := by simpa using hm
  exact this
theorem provedTopLowered : Rows.TopLoweredCardSaid :=
  Claim7.holds_tied_plain_at .later [] _ _ _ _ saidTopLowered (fun _ h => by cases h) (by kernel_rfl) (fun _ h => by cases h) topLowered_row_tie rfl ⟨rfl, rfl⟩ (by kernel_rfl) rfl plainTopLowered (by kernel_rfl)
end Go.Proofs.YtkhpdpenlnhbiaaGreatDoor

