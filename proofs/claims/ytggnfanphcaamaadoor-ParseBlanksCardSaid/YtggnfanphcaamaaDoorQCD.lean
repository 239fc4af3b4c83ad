/- ParseBlanks: blanks and remarks between tokens change nothing but places; no condition beyond the row's own. Condition: none. -/
import Derived.Test.YtggnfanphcaamaaDoorCards
import Derived.Test.YtggnfanphcaamaaDoorTie
import Derived.WalkKit
import Derived.ProofKit
import Derived.OpenShut
import Derived.ShutString
import Derived.Deep.DeepHandedRow
import Derived.Lib.LaidTab
import Derived.ChangeOld
import Derived.Test.YtggnfanphcaamaaDoorQW
import Derived.Test.YtggnfanphcaamaaDoorK14
namespace Go.Proofs.YtggnfanphcaamaaDoor
open Go.ChangeShapes Go.WideShapes Go.ChangeAt Go.RowKit
open Go.ChangeMaps (open_string shut_string)
open Sx LexS ParS
set_option linter.unusedVariables false
set_option linter.unusedSimpArgs false
theorem open_bytes {P : Program} {t e : TypeId} {H : Type} {enc : TypeId × Value → H} {w : World} {v : Value} {d : DataW H} {ps : List MemPlace} (ht : P.underlying t = some (.slice e)) (he : P.underlying e = some (.int .u8)) (hsz : P.cellsOf e = 1)
    (h : DataW.Trod enc P w 0 (fun _ => true) true t v d ps) (hv : v.cells.toList = [v]) : ∃ (oa : Option Addr) (gaps : List UInt8) (cap : Nat), v = .slice oa gaps.length cap ∧ (gaps.length = 0 ∨ ∃ b off, oa = some ⟨b, off, none⟩ ∧ ∀ j, j < gaps.length → w.cell? ⟨b, off + j, none⟩ = some (.int .u8 (((gaps.getD j 0).toNat : Nat) : Int))) := by
  obtain ⟨fuel, hf⟩ := h
  rw [hv] at hf
  obtain ⟨oa, len, cap, n, elems, rest, rfl, hlen, -, -, -, -, hc⟩ := open_row ht hsz (by decide) hf
  rcases hc with rfl | ⟨b, off, rfl, hc⟩
  · exact ⟨oa, [], cap, rfl, .inl rfl⟩
  · obtain ⟨l, hl, hP⟩ := exists_list (0 : UInt8) len (fun j x => w.cell? ⟨b, off + j, none⟩ = some (.int .u8 ((x.toNat : Nat) : Int))) (fun j hj => by
      obtain ⟨cs, pp, dd, hcl, hd, htr, hcell⟩ := hc j hj
      match cs, hcl with
      | [c], _ =>
        obtain ⟨x, e0, -, hwf⟩ := DataW.trod_int he htr
        simp only [List.cons.injEq, and_true] at e0
        subst e0
        obtain ⟨hb1, hb2⟩ := bounds8 hwf
        refine ⟨UInt8.ofNat x.toNat, ?_⟩
        have := hcell 0 _ rfl
        rw [Nat.mul_one, Nat.add_zero] at this
        rw [this]
        congr 2
        simp
        omega)
    subst hl
    exact ⟨_, l, cap, rfl, .inr ⟨b, off, rfl, hP⟩⟩

theorem gSig : Tryd.prog.globalNamed "stile/words.signs" = some 0 := by kernel_rfl
theorem gSigT : (Tryd.prog.globals[0]?).map (·.type) = some 85 := by kernel_rfl
theorem laid_sgn {H : Type} : (Rows.laid_stile_words_signs : DataW H) = .agg (sgnT.map fun p => .agg [.lit (.string p.1), .lit (.int .i64 p.2)]) := rfl
/-- what the row's list gives: the table of signs lies there -/
theorem sig_of {W : World} (h : laidMet Tryd.prog [("stile/words.signs", Rows.laid_stile_words_signs)] W) : Sig W := by
  obtain ⟨ps, ⟨g', t', cs, fuel, p, q, hg', ht', hvar, hd, _, _⟩, _⟩ := h
  obtain rfl := Option.some.inj (gSig.symm.trans hg')
  obtain rfl := Option.some.inj (gSigT.symm.trans ht')
  have c1 : Tryd.prog.cellsOf 85 = 38 := by kernel_rfl
  have c2 : Tryd.prog.cellsOf 84 = 2 := by kernel_rfl
  have c3 : Tryd.prog.cellsOf 9 = 1 := by kernel_rfl
  have c4 : Tryd.prog.cellsOf 3 = 1 := by kernel_rfl
  obtain ⟨xs, m, -, hx, hl, hxl, hf⟩ := DataW.trod_array Tryd.underlying85 hd
  rw [laid_sgn] at hx
  simp only [Prod.mk.injEq, DataW.agg.injEq] at hx
  intro k hk
  have hxk := hf k hk
  have hk' : k < xs.length := by omega
  rw [List.getElem?_eq_getElem hk'] at hxk
  have hy : xs[k].1 = .agg [.lit (.string (sgn k)), .lit (.int .i64 (lvl k))] := by
    have e := congrArg (·[k]?) hx.1
    have hkk : k < sgnT.length := hk
    simp only [List.getElem?_map, List.getElem?_eq_getElem hk', List.getElem?_eq_getElem hkk, Option.map_some, Option.some.injEq] at e
    rw [← e]
    simp only [sgn, lvl, List.getD, List.getElem?_eq_getElem hkk, Option.getD_some]
  obtain ⟨zs', m2, -, hz, hzl, hzn, hzf⟩ := DataW.trod_struct Tryd.underlying84 hxk
  have h0 := hzf 0 _ rfl
  have h1 := hzf 1 _ rfl
  rw [hz] at hy
  match zs', hzn with
  | [z0, z1], _ =>
    simp only [List.map_cons, List.map_nil, DataW.agg.injEq, List.cons.injEq, and_true] at hy
    simp only [c2, c3, c4, List.getElem?_cons_zero, List.getElem?_cons_succ, List.drop_zero] at h0 h1
    obtain ⟨s, e0, d0, -⟩ := DataW.trod_string Tryd.underlying9 h0
    obtain ⟨l, e1, d1, -⟩ := DataW.trod_int Tryd.underlying3 h1
    rw [d0, d1] at hy
    simp only [DataW.lit.injEq, Lit.string.injEq, Lit.int.injEq, true_and] at hy
    have hlen : cs.size = 38 := by simpa [c1] using hl
    have p0 : cs.toList[k * 2]? = some (.string s) := by
      have := congrArg (·[0]?) e0
      simp [List.getElem?_take, List.getElem?_drop] at this
      simpa using this.2
    have p1 : cs.toList[k * 2 + 1]? = some (.int .i64 l) := by
      have := congrArg (·[0]?) e1
      simp [List.getElem?_take, List.getElem?_drop] at this
      simpa using this.2
    have hcell := fun i => World.var?_cell gSig hvar i
    refine ⟨?_, ?_⟩
    · rw [hcell (k * 2)]
      rw [← hy.1]
      simpa using p0
    · rw [hcell (k * 2 + 1)]
      rw [← hy.2]
      simpa using p1
/-- a world for the witness: the settled one, the table holding what its initialiser lays -/
noncomputable def laidWorld (os : Os) : World :=
  { World.holding Tryd.prog os ⟨#[], #[], []⟩ with heap := (World.holding Tryd.prog os ⟨#[], #[], []⟩).heap.modify 0 fun
      | .cells _ t frozen => .cells (sgnT.flatMap fun p => [str p.1, .int .i64 p.2]).toArray t frozen
      | o => o }

theorem ownParseBlanks : ownKnob Tryd.prog.godebug = none := by kernel_rfl
theorem laidOutParseBlanks : laidOutB Tryd.prog = true := by kernel_rfl
set_option maxRecDepth 100000 in
theorem contractParseBlanks (H : Type) (enc : TypeId × Value → H) (W : World) (base : Nat) (args : Array Value) (ds gs : List (DataW H)) (before : List MemPlace)
    (hval0 : ∀ (j : Nat) t v, Tryd.f5.params[j]? = some t → args[j]? = some v → Value.okWide Tryd.prog W .any base t v)
    (hW : DataW.Whole enc Tryd.prog Tryd.f5.params.toList Rows.parseBlanksSpec.vars false W args.toList ds gs before) (hL : laidMetH Tryd.prog Rows.parseBlanksRow.laid W) :
    Calls Tryd.prog 5 args W fun e W' => ∃ v, e = .returned v ∧ Rows.parseBlanksSpec.post enc Tryd.prog Tryd.f5 false true false false W args v W' := by
  have hval : ∀ (j : Nat) t v, Tryd.f5.params[j]? = some t → args[j]? = some v → Value.okWide Tryd.prog W .any base t v := hval0
  have hW' := hW
  have hlt := hW.lt
  have hsig : Sig W := sig_of hL
  obtain ⟨p, q, hA0, hV, rfl, hfz, hnd⟩ := hW
  have hA : DataW.TrodAll enc Tryd.prog W 0 (fun _ => true) true Tryd.f5.params.toList args.toList ds p := hA0
  have hshut : ∀ W', Below W.heap.size W W' → DataW.TrodAll enc Tryd.prog W' 0 (fun b => decide (b < W.heap.size)) true Tryd.f5.params.toList args.toList ds p := fun W' hb => Sx.trodAll_shut laidOutParseBlanks hb (by kernel_rfl) hA (fun x hx => hlt x (List.mem_append.2 (.inl hx)))
  rw [Tryd.params5] at hA hval
  obtain ⟨v0, vs0, d0, ds0, p0, q0, hargs, rfl, rfl, h0, r0⟩ := trodAll_cons hA
  obtain ⟨v1, vs1, d1, ds1, p1, q1, rfl, rfl, rfl, h1, r1⟩ := trodAll_cons r0
  obtain ⟨rfl, rfl, rfl⟩ := trodAll_nil r1
  obtain rfl : args = #[v0, v1] := by cases args; simp_all
  obtain ⟨rfl, rfl⟩ := trodVars_none hV
  obtain ⟨a0, rfl, rfl, rfl, w0⟩ := open_string Tryd.underlying9 (hval 0 9 v0 rfl rfl) h0
  obtain ⟨og, gaps, cg, rfl, hG⟩ := open_bytes Tryd.underlying40 Tryd.underlying5 (by kernel_rfl) h1 (by obtain ⟨oa, len, cap, rfl, -⟩ := Sx.okWide_slice Tryd.underlying40 (hval 1 40 v1 rfl rfl); rfl)
  clear hA0 hval0
  have hwalk := blanks_any a0.data.toList gaps og cg W hsig hG
  refine Calls.mono hwalk fun e W' ⟨u, he, hu, hc⟩ => ?_
  subst he
  subst hu
  have bel := hc.below
  exact ⟨_, rfl, _, _, _, [], _, [], hW', trodAll_mk1 (shut_bool Tryd.underlying4 _), hshut W' bel, rfl, bel.frame _, fun h => by cases h⟩
theorem laid_metParseBlanks (os : Os) : laidMet Tryd.prog Rows.parseBlanksRow.laid ((laidWorld os).forCall (fun _ _ => 0) ⟨#[], #[.string ⟨#[]⟩, .slice none 0 0], []⟩).memory :=
  laidMet_of_run' 8 (by kernel_rfl) (by kernel_rfl)
theorem readsParseBlanks (os : Os) {H : Type} (enc : TypeId × Value → H) : ∃ places, DataW.whole enc Tryd.prog ((laidWorld os).forCall (fun _ _ => 0) ⟨#[], #[.string ⟨#[]⟩, .slice none 0 0], []⟩).memory Tryd.f5.params.toList Rows.parseBlanksSpec.vars false (#[.string ⟨#[]⟩, .slice none 0 0] : Array Value).toList 8 = some ([.lit (.string []), .nil], [], places) :=
  ⟨[], by kernel_rfl⟩
set_option maxRecDepth 100000 in
theorem liftedParseBlanks (os : Os) (started : os.Started) (H : Type) (enc : TypeId × Value → H) (F : Stop.Interp) :
    ReturnsInHanded {} Tryd.checked os 5 .any ((OpenSpec.ofChange Rows.parseBlanksSpec).preRow enc Tryd.prog Tryd.f5 Rows.parseBlanksRow.domain false Rows.parseBlanksRow.laid) (((OpenSpec.ofChange Rows.parseBlanksSpec).at F).post enc Tryd.prog Tryd.f5 false true false false) := by
  obtain ⟨places, hx⟩ := readsParseBlanks os enc
  refine returnsInHanded_of_row (C := Tryd.checked) (s := OpenSpec.ofChange Rows.parseBlanksSpec) ownParseBlanks started (by kernel_rfl) Tryd.func5
    (witness_row_at (enc := enc) (C := Tryd.checked) false (laidWorld os) #[.string ⟨#[]⟩, .slice none 0 0] rfl (by kernel_rfl) (by kernel_rfl) (by kernel_rfl)
      (OpenSpec.preRow_of_cond 8 hx (by kernel_rfl) (fun k hk => by cases hk) (by kernel_rfl) (laid_metParseBlanks os))) ?_
  intro W base args ds gs before hval hW _ _ _ hL _ _
  exact contractParseBlanks H enc W base args ds gs before hval hW hL
theorem saidParseBlanks : Rows.ParseBlanksSaid :=
  OpenClaim.holds_of_cond 5 Tryd.f5 rfl rfl rfl rfl rfl rfl rfl ⟨rfl, rfl, rfl, rfl, rfl⟩ rfl rfl rfl rfl rfl (by kernel_rfl) Tryd.func5 (by kernel_rfl)
    (of_decide_eq_true (by kernel_rfl)) (by unfold Func.isWrapper; first | (rw [if_pos (by decide +kernel)]; kernel_rfl) | (rw [if_neg (by decide +kernel)]; exact ⟨rfl, rfl⟩))
    (fun os started H enc _ F => by rw [OpenClaim.pre_eq_preRow]; exact liftedParseBlanks os started H enc F)
theorem plainParseBlanks (f : FuncId) (fn : Func) (hf : Tryd.pinned.checked.prog.funcNamed "stile/stilelaw03.ParseBlanks" = some f) (hfn : Tryd.pinned.checked.prog.funcs[f]? = some fn) :
    true = Tryd.pinned.checked.prog.looks [] ∧ ∀ (j : Nat) t, fn.params[j]? = some t → Tryd.pinned.checked.prog.wantsStandIn t = false := by
  obtain rfl : f = 5 := Option.some.inj ((show Tryd.prog.funcNamed "stile/stilelaw03.ParseBlanks" = some 5 by kernel_rfl).symm.trans hf) |>.symm
  obtain rfl : fn = Tryd.f5 := (Option.some.inj (Tryd.func5.symm.trans hfn)).symm
  refine ⟨by kernel_rfl, fun j t ht => ?_⟩
  have hall : (Tryd.f5.params.toList.all fun t => !Tryd.prog.wantsStandIn t) = true := by kernel_rfl
  have hm := List.all_eq_true.1 hall t (by simpa using Array.mem_of_getElem? ht)
  have : Tryd.prog.wantsStandIn t = false := by simpa using hm
  exact this
theorem provedParseBlanks : Rows.ParseBlanksCardSaid :=
  Claim7.holds_tied_plain_at .later [] _ _ _ _ saidParseBlanks (fun _ h => by cases h) (by kernel_rfl) (fun _ h => by cases h) parseBlanks_row_tie rfl ⟨rfl, rfl⟩ (by kernel_rfl) rfl plainParseBlanks (by kernel_rfl)
end Go.Proofs.YtggnfanphcaamaaDoor

