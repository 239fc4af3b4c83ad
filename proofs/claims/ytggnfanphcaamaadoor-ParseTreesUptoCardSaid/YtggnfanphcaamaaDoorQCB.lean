/- two trees are the same for the parser as for the reference, a copy is the same, and both reckon alike how great and how deep they are. Condition: what it reads is of bulk at most 1048576. -/
import Derived.Test.YtggnfanphcaamaaDoorCards
import Derived.Test.YtggnfanphcaamaaDoorTie
import Derived.WalkKit
import Derived.ProofKit
import Derived.OpenShut
import Derived.ShutString
import Derived.Deep.DeepHandedRow
import Derived.Lib.LaidTab
import Derived.ChangeOld
import Derived.Test.YtggnfanphcaamaaDoorK17
namespace Go.Proofs.YtggnfanphcaamaaDoor
open Go.ChangeShapes Go.WideShapes Go.ChangeAt Go.RowKit
open Go.ChangeMaps (open_string shut_string)
open Sx LexS ParS
set_option linter.unusedVariables false
set_option linter.unusedSimpArgs false

theorem gSig : Tryd.prog.globalNamed "stile/words.signs" = some 0 := by kernel_rfl
theorem gSigT : (Tryd.prog.globals[0]?).map (·.type) = some 85 := by kernel_rfl
theorem laid_sgn {H : Type} : (Rows.laid_stile_words_signs : DataW H) = .agg (sgnT.map fun p => .agg [.lit (.string p.1), .lit (.int .i64 p.2)]) := rfl
/-- what the row's list gives: the table of signs lies there -/
theorem sig_of {W : World} (h : laidMet Tryd.prog [("stile/words.signs", Rows.laid_stile_words_signs)] W) : Sig W := by
  obtain ⟨ps, ⟨g', t', cs, fuel, p, q, hg', ht', hvar, hd, _, _⟩, _⟩ := h
  obtain rfl := Option.some.inj (gSig.symm.trans hg')
  obtain rfl := Option.some.inj (gSigT.symm.trans ht')
  have c1 : Tryd.prog.cellsOf 85 = 38 := by kernel_rfl
  have c2 : Tryd.prog.cellsOf 84 = 2 := by kernel_rfl
  have c3 : Tryd.prog.cellsOf 9 = 1 := by kernel_rfl
  have c4 : Tryd.prog.cellsOf 3 = 1 := by kernel_rfl
  obtain ⟨xs, m, -, hx, hl, hxl, hf⟩ := DataW.trod_array Tryd.underlying85 hd
  rw [laid_sgn] at hx
  simp only [Prod.mk.injEq, DataW.agg.injEq] at hx
  intro k hk
  have hxk := hf k hk
  have hk' : k < xs.length := by omega
  rw [List.getElem?_eq_getElem hk'] at hxk
  have hy : xs[k].1 = .agg [.lit (.string (sgn k)), .lit (.int .i64 (lvl k))] := by
    have e := congrArg (·[k]?) hx.1
    have hkk : k < sgnT.length := hk
    simp only [List.getElem?_map, List.getElem?_eq_getElem hk', List.getElem?_eq_getElem hkk, Option.map_some, Option.some.injEq] at e
    rw [← e]
    simp only [sgn, lvl, List.getD, List.getElem?_eq_getElem hkk, Option.getD_some]
  obtain ⟨zs', m2, -, hz, hzl, hzn, hzf⟩ := DataW.trod_struct Tryd.underlying84 hxk
  have h0 := hzf 0 _ rfl
  have h1 := hzf 1 _ rfl
  rw [hz] at hy
  match zs', hzn with
  | [z0, z1], _ =>
    simp only [List.map_cons, List.map_nil, DataW.agg.injEq, List.cons.injEq, and_true] at hy
    simp only [c2, c3, c4, List.getElem?_cons_zero, List.getElem?_cons_succ, List.drop_zero] at h0 h1
    obtain ⟨s, e0, d0, -⟩ := DataW.trod_string Tryd.underlying9 h0
    obtain ⟨l, e1, d1, -⟩ := DataW.trod_int Tryd.underlying3 h1
    rw [d0, d1] at hy
    simp only [DataW.lit.injEq, Lit.string.injEq, Lit.int.injEq, true_and] at hy
    have hlen : cs.size = 38 := by simpa [c1] using hl
    have p0 : cs.toList[k * 2]? = some (.string s) := by
      have := congrArg (·[0]?) e0
      simp [List.getElem?_take, List.getElem?_drop] at this
      simpa using this.2
    have p1 : cs.toList[k * 2 + 1]? = some (.int .i64 l) := by
      have := congrArg (·[0]?) e1
      simp [List.getElem?_take, List.getElem?_drop] at this
      simpa using this.2
    have hcell := fun i => World.var?_cell gSig hvar i
    refine ⟨?_, ?_⟩
    · rw [hcell (k * 2)]
      rw [← hy.1]
      simpa using p0
    · rw [hcell (k * 2 + 1)]
      rw [← hy.2]
      simpa using p1
/-- a world for the witness: the settled one, the table holding what its initialiser lays -/
noncomputable def laidWorld (os : Os) : World :=
  { World.holding Tryd.prog os ⟨#[], #[], []⟩ with heap := (World.holding Tryd.prog os ⟨#[], #[], []⟩).heap.modify 0 fun
      | .cells _ t frozen => .cells (sgnT.flatMap fun p => [str p.1, .int .i64 p.2]).toArray t frozen
      | o => o }

mutual
theorem bulk_le {H : Type} : ∀ d : DataW H, bulkW d ≤ Rows.uptoBulk d
  | .lit l => by cases l <;> simp [bulkW, Rows.uptoBulk]
  | .nil => by simp [bulkW, Rows.uptoBulk]
  | .ptr d => by have := bulk_le d; simp only [bulkW, Rows.uptoBulk]; omega
  | .slice a b => by have := bulks_le a; have := bulks_le b; simp only [bulkW, Rows.uptoBulk]; omega
  | .agg a => by have := bulks_le a; simp only [bulkW, Rows.uptoBulk]; omega
  | .iface _ d => by have := bulk_le d; simp only [bulkW, Rows.uptoBulk]; omega
  | .map _ => by simp only [bulkW, Rows.uptoBulk]; omega
  | .held _ => by simp [bulkW, Rows.uptoBulk]
theorem bulks_le {H : Type} : ∀ l : List (DataW H), bulkWs l ≤ Rows.uptoBulkAll l
  | [] => by simp [bulkWs, Rows.uptoBulkAll]
  | d :: r => by have := bulk_le d; have := bulks_le r; simp only [bulkWs, Rows.uptoBulkAll]; omega
end

def ids : TyIds := ⟨22, 23, 2, 9, 24, 26, 3, 81, 76, 83, 41, 80, 42, 78, 44⟩
theorem ids_ok : okIds Tryd.prog ids = true := by kernel_rfl

set_option maxRecDepth 100000 in
theorem open_exa {H : Type} {enc : TypeId × Value → H} {W : World} {b0 : Nat} {v : Value} {d : DataW H} {ps : List MemPlace} (hval : Value.okWide Tryd.prog W .any b0 26 v) (h : DataW.Trod enc Tryd.prog W 0 (fun _ => true) true 26 v d ps) (hB : bulkW d ≤ 1048576) :
    ∃ (e : Ex) (oa : Option Addr) (ca : Nat), v = .agg (exC e oa ca).toArray ∧ ExRow W (· < W.heap.size) oa e.kids ∧ OkE e := by
  obtain ⟨fuel, h⟩ := h
  have hagg : ∃ cs, v = .agg cs := by
    have ht := Tryd.underlying26
    simp only [Value.okWide, ht] at hval
    obtain ⟨cs, rfl, -⟩ := hval
    exact ⟨cs, rfl⟩
  obtain ⟨⟨cs⟩, rfl⟩ := hagg
  obtain ⟨e, ⟨h1, h2⟩, -⟩ := open_ex (I := ids) ids_ok fuel cs d ps h hB
  obtain ⟨oa, ca, e1, h3⟩ := ExV.inv h1
  exact ⟨e, oa, ca, by rw [e1], h3, h2⟩

theorem ownParseTrees : ownKnob Tryd.prog.godebug = none := by kernel_rfl
theorem laidOutParseTrees : laidOutB Tryd.prog = true := by kernel_rfl
set_option maxRecDepth 100000 in
theorem contractParseTrees (H : Type) (enc : TypeId × Value → H) (W : World) (base : Nat) (args : Array Value) (ds gs : List (DataW H)) (before : List MemPlace)
    (hval0 : ∀ (j : Nat) t v, Tryd.f7.params[j]? = some t → args[j]? = some v → Value.okWide Tryd.prog W .any base t v)
    (hW : DataW.Whole enc Tryd.prog Tryd.f7.params.toList Rows.parseTreesSpec.vars false W args.toList ds gs before) (hL : laidMetH Tryd.prog Rows.parseTreesUptoRow.laid W) (hk : Rows.uptoSmall H (ds ++ gs) = true) :
    Calls Tryd.prog 7 args W fun e W' => ∃ v, e = .returned v ∧ Rows.parseTreesSpec.post enc Tryd.prog Tryd.f7 false true false false W args v W' := by
  have hval : ∀ (j : Nat) t v, Tryd.f7.params[j]? = some t → args[j]? = some v → Value.okWide Tryd.prog W .any base t v := hval0
  have hW' := hW
  have hlt := hW.lt
  have hsig : Sig W := sig_of hL
  obtain ⟨p, q, hA0, hV, rfl, hfz, hnd⟩ := hW
  have hA : DataW.TrodAll enc Tryd.prog W 0 (fun _ => true) true Tryd.f7.params.toList args.toList ds p := hA0
  have hshut : ∀ W', Below W.heap.size W W' → DataW.TrodAll enc Tryd.prog W' 0 (fun b => decide (b < W.heap.size)) true Tryd.f7.params.toList args.toList ds p := fun W' hb => Sx.trodAll_shut laidOutParseTrees hb (by kernel_rfl) hA (fun x hx => hlt x (List.mem_append.2 (.inl hx)))
  rw [Tryd.params7] at hA hval
  obtain ⟨v0, vs0, d0, ds0, p0, q0, hargs, rfl, rfl, h0, r0⟩ := trodAll_cons hA
  obtain ⟨v1, vs1, d1, ds1, p1, q1, rfl, rfl, rfl, h1, r1⟩ := trodAll_cons r0
  obtain ⟨v2, vs2, d2, ds2, p2, q2, rfl, rfl, rfl, h2, r2⟩ := trodAll_cons r1
  obtain ⟨v3, vs3, d3, ds3, p3, q3, rfl, rfl, rfl, h3, r3⟩ := trodAll_cons r2
  obtain ⟨rfl, rfl, rfl⟩ := trodAll_nil r3
  obtain rfl : args = #[v0, v1, v2, v3] := by cases args; simp_all
  obtain ⟨rfl, rfl⟩ := trodVars_none hV
  have hsmall : bulkW d0 ≤ 1048576 ∧ bulkW d1 ≤ 1048576 ∧ bulkW d2 ≤ 1048576 ∧ bulkW d3 ≤ 1048576 := by
    have h := of_decide_eq_true hk
    simp only [List.cons_append, List.nil_append, Rows.uptoBulkAll] at h
    have hb0 := bulk_le d0
    have hb1 := bulk_le d1
    have hb2 := bulk_le d2
    have hb3 := bulk_le d3
    refine ⟨?_, ?_, ?_, ?_⟩ <;> omega
  obtain ⟨pp0, os0, ol0, ot0, cs0, cl0, ct0, rfl, qa0, qb0, qc0, qok0, qsz0⟩ := open_pg (I := ids) ids_ok (hval 0 44 v0 rfl rfl) h0 hsmall.1
  obtain ⟨pp1, os1, ol1, ot1, cs1, cl1, ct1, rfl, qa1, qb1, qc1, qok1, qsz1⟩ := open_pg (I := ids) ids_ok (hval 1 44 v1 rfl rfl) h1 hsmall.2.1
  obtain ⟨e2, oe2, ce2, rfl, qe2, qok2⟩ := open_exa (hval 2 26 v2 rfl rfl) h2 hsmall.2.2.1
  obtain ⟨e3, oe3, ce3, rfl, qe3, qok3⟩ := open_exa (hval 3 26 v3 rfl rfl) h3 hsmall.2.2.2
  clear hA0 hval0
  have hwalk := trees_any pp0 pp1 e2 e3 qok0 qok2.kids (by have := hsmall.1; simp only [szP] at qsz0; omega) os0 ol0 ot0 os1 ol1 ot1 oe2 oe3 cs0 cl0 ct0 cs1 cl1 ct1 ce2 ce3 W hsig qa0 qb0 qc0 qa1 qb1 qc1 qe2 qe3
  refine Calls.mono hwalk fun e W' ⟨u, he, hu, hc⟩ => ?_
  subst he
  subst hu
  have bel := hc.below
  exact ⟨_, rfl, _, _, _, [], _, [], hW', trodAll_mk1 (shut_bool Tryd.underlying4 _), hshut W' bel, rfl, bel.frame _, fun h => by cases h⟩
theorem laid_metParseTrees (os : Os) : laidMet Tryd.prog Rows.parseTreesUptoRow.laid ((laidWorld os).forCall (fun _ _ => 0) ⟨#[], #[.agg #[.slice none 0 0, .slice none 0 0, .slice none 0 0], .agg #[.slice none 0 0, .slice none 0 0, .slice none 0 0], .agg #[.int .u8 0, .int .u8 0, .int .i64 0, .string ⟨#[]⟩, .slice none 0 0, .int .i64 0], .agg #[.int .u8 0, .int .u8 0, .int .i64 0, .string ⟨#[]⟩, .slice none 0 0, .int .i64 0]], []⟩).memory :=
  laidMet_of_run' 8 (by kernel_rfl) (by kernel_rfl)
theorem readsParseTrees (os : Os) {H : Type} (enc : TypeId × Value → H) : ∃ places, DataW.whole enc Tryd.prog ((laidWorld os).forCall (fun _ _ => 0) ⟨#[], #[.agg #[.slice none 0 0, .slice none 0 0, .slice none 0 0], .agg #[.slice none 0 0, .slice none 0 0, .slice none 0 0], .agg #[.int .u8 0, .int .u8 0, .int .i64 0, .string ⟨#[]⟩, .slice none 0 0, .int .i64 0], .agg #[.int .u8 0, .int .u8 0, .int .i64 0, .string ⟨#[]⟩, .slice none 0 0, .int .i64 0]], []⟩).memory Tryd.f7.params.toList Rows.parseTreesSpec.vars false (#[.agg #[.slice none 0 0, .slice none 0 0, .slice none 0 0], .agg #[.slice none 0 0, .slice none 0 0, .slice none 0 0], .agg #[.int .u8 0, .int .u8 0, .int .i64 0, .string ⟨#[]⟩, .slice none 0 0, .int .i64 0], .agg #[.int .u8 0, .int .u8 0, .int .i64 0, .string ⟨#[]⟩, .slice none 0 0, .int .i64 0]] : Array Value).toList 8 = some ([.agg [.nil, .nil, .nil], .agg [.nil, .nil, .nil], .agg [.lit (.int .u8 0), .lit (.int .u8 0), .lit (.int .i64 0), .lit (.string []), .nil, .lit (.int .i64 0)], .agg [.lit (.int .u8 0), .lit (.int .u8 0), .lit (.int .i64 0), .lit (.string []), .nil, .lit (.int .i64 0)]], [], places) :=
  ⟨[], by kernel_rfl⟩
set_option maxRecDepth 100000 in
theorem liftedParseTrees (os : Os) (started : os.Started) (H : Type) (enc : TypeId × Value → H) (F : Stop.Interp) :
    ReturnsInHanded {} Tryd.checked os 7 .any ((Rows.OpenSpec.upto Rows.parseTreesSpec).preRow enc Tryd.prog Tryd.f7 Rows.parseTreesUptoRow.domain false Rows.parseTreesUptoRow.laid) (((Rows.OpenSpec.upto Rows.parseTreesSpec).at F).post enc Tryd.prog Tryd.f7 false true false false) := by
  obtain ⟨places, hx⟩ := readsParseTrees os enc
  refine returnsInHanded_of_row (C := Tryd.checked) (s := Rows.OpenSpec.upto Rows.parseTreesSpec) ownParseTrees started (by kernel_rfl) Tryd.func7
    (witness_row_at (enc := enc) (C := Tryd.checked) false (laidWorld os) #[.agg #[.slice none 0 0, .slice none 0 0, .slice none 0 0], .agg #[.slice none 0 0, .slice none 0 0, .slice none 0 0], .agg #[.int .u8 0, .int .u8 0, .int .i64 0, .string ⟨#[]⟩, .slice none 0 0, .int .i64 0], .agg #[.int .u8 0, .int .u8 0, .int .i64 0, .string ⟨#[]⟩, .slice none 0 0, .int .i64 0]] rfl (by kernel_rfl) (by kernel_rfl) (by kernel_rfl)
      (OpenSpec.preRow_of_cond 8 hx (by kernel_rfl) (fun k hk => by cases hk; kernel_rfl) (by kernel_rfl) (laid_metParseTrees os))) ?_
  intro W base args ds gs before hval hW _ hcond _ hL _ _
  exact contractParseTrees H enc W base args ds gs before hval hW hL (hcond _ rfl)
theorem saidParseTrees : Rows.ParseTreesUptoSaid :=
  OpenClaim.holds_of_cond 7 Tryd.f7 rfl rfl rfl rfl rfl rfl rfl ⟨rfl, rfl, rfl, rfl, rfl⟩ rfl rfl rfl rfl rfl (by kernel_rfl) Tryd.func7 (by kernel_rfl)
    (of_decide_eq_true (by kernel_rfl)) (by unfold Func.isWrapper; first | (rw [if_pos (by decide +kernel)]; kernel_rfl) | (rw [if_neg (by decide +kernel)]; exact ⟨rfl, rfl⟩))
    (fun os started H enc _ F => by rw [OpenClaim.pre_eq_preRow]; exact liftedParseTrees os started H enc F)
theorem plainParseTrees (f : FuncId) (fn : Func) (hf : Tryd.pinned.checked.prog.funcNamed "stile/stilelaw03.ParseTrees" = some f) (hfn : Tryd.pinned.checked.prog.funcs[f]? = some fn) :
    true = Tryd.pinned.checked.prog.looks [] ∧ ∀ (j : Nat) t, fn.params[j]? = some t → Tryd.pinned.checked.prog.wantsStandIn t = false := by
  obtain rfl : f = 7 := Option.some.inj ((show Tryd.prog.funcNamed "stile/stilelaw03.ParseTrees" = some 7 by kernel_rfl).symm.trans hf) |>.symm
  obtain rfl : fn = Tryd.f7 := (Option.some.inj (Tryd.func7.symm.trans hfn)).symm
  refine ⟨by kernel_rfl, fun j t ht => ?_⟩
  have hall : (Tryd.f7.params.toList.all fun t => !Tryd.prog.wantsStandIn t) = true := by kernel_rfl
  have hm := List.all_eq_true.1 hall t (by simpa using Array.mem_of_getElem? ht)
  have : Tryd.prog.wantsStandIn t = false := by simpa using hm
  exact this
theorem provedParseTrees : Rows.ParseTreesUptoCardSaid :=
  Claim7.holds_tied_plain_at .later [] _ _ _ _ saidParseTrees (fun _ h => by cases h) (by kernel_rfl) (fun _ h => by cases h) parseTreesUpto_row_tie rfl ⟨rfl, rfl⟩ (by kernel_rfl) rfl plainParseTrees (by kernel_rfl)
end Go.Proofs.YtggnfanphcaamaaDoor

