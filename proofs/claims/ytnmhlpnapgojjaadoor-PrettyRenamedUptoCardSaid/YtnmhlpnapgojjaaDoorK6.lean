/- A part of the proof: contracts of functions and plain laws; each theorem says its own conditions. -/
import Derived.Test.YtnmhlpnapgojjaaDoorK4
import Derived.Test.YtnmhlpnapgojjaaDoorK1
import Derived.Test.YtnmhlpnapgojjaaDoorTrydShelfQ
import Derived.Test.YtnmhlpnapgojjaaDoorK2
namespace Go.Proofs.YtnmhlpnapgojjaaDoor
open Go.RowKit Sx LexS
set_option linter.unusedVariables false
set_option linter.unusedSimpArgs false
theorem repeatL_mar : ∀ d, Lib.repeatL [32, 32] d = mar d
  | 0 => rfl
  | d + 1 => by
    show [32, 32] ++ Lib.repeatL [32, 32] d = _
    rw [repeatL_mar d]
    unfold mar
    rw [show 2 * (d + 1) = 2 * d + 2 by omega]
    rfl
theorem repeat_any (d : Nat) (w : World) (hd : d ≤ 1000) : Ret Tryd.prog 50 [str [32, 32], .int .i64 (d : Int)] w fun v w' => v = str (mar d) ∧ Chg [] w w' := by
  have key := Tryd.strings_Repeat ⟨[32, 32].toArray⟩ d w (by omega) (by show 2 * d ≤ _; omega)
  refine Calls.mono key ?_
  rintro e w' ⟨rfl, hb⟩
  refine ⟨_, rfl, ?_, Chg.of_below hb⟩
  show Value.string ⟨(Lib.repeatL [32, 32] d).toArray⟩ = _
  have e := repeatL_mar d
  rw [e]
abbrev strsL (l : List (List UInt8)) : List Value := l.map str
theorem joinC_eq (l : List (List UInt8)) : Lib.join l [44, 32] = joinC l := by
  unfold Lib.join
  match l with
  | [] => rfl
  | [x] => simp [joinC, List.intercalate]
  | x :: y :: r =>
    have ih := joinC_eq (y :: r)
    unfold Lib.join at ih
    simp only [joinC]
    rw [← ih]
    simp [List.intercalate]
theorem joinC_any (l : List (List UInt8)) (oa : Option Addr) (cap base : Nat) (w : World) (ho : w.ownsRow base 9 1 (.slice oa l.length cap) l.length (strsL l)) (hlen : (joinC l).length ≤ 140737488355328) (hl : l.length ≤ 140737488355328) :
    Ret Tryd.prog 49 [.slice oa l.length cap, str [44, 32]] w fun v w' => v = str (joinC l) ∧ Chg [] w w' := by
  rcases l with _ | ⟨x, r⟩
  · refine Calls.mono (Tryd.strings_Join_none oa cap ⟨[44, 32].toArray⟩ w) ?_
    rintro e w' ⟨rfl, rfl⟩
    exact ⟨_, rfl, rfl, Chg.refl _ _⟩
  · obtain ⟨g, cap', e, hg⟩ := own_form ho (by simp)
    simp only [Value.slice.injEq] at e
    obtain ⟨rfl, -, rfl⟩ := e
    have hblk := (World.ownsRow.lt ho g (by simp [Value.ownBlock])).2
    have hcap : (x :: r).length ≤ cap := by
      rcases ho.2 with ⟨h, _⟩ | ⟨g', c', cur, h, _, _, h1, _⟩
      · cases h
      · simp only [Value.slice.injEq] at h; omega
    have hm : ((x :: r).map fun t => (⟨t.toArray⟩ : ByteArray)).map (·.data.toList) = x :: r := by simp [Function.comp_def]
    have key := Tryd.strings_Join g 0 cap ((x :: r).map fun t => (⟨t.toArray⟩ : ByteArray)) ⟨[44, 32].toArray⟩ w (fun j y hj => by
      rw [Nat.zero_add]
      refine own_cell ho ?_
      rw [List.getElem?_map] at hj ⊢
      cases hq : (x :: r)[j]? with
      | none => rw [hq] at hj; cases hj
      | some q => rw [hq] at hj; cases hj; rfl) hblk (by simpa using hl) (by simpa using hcap) (by rw [hm]; show (Lib.join (x :: r) [44, 32]).length ≤ _; rw [joinC_eq]; exact hlen)
    rw [hm, List.length_map] at key
    refine Calls.mono key ?_
    rintro e w' ⟨rfl, hb⟩
    refine ⟨_, rfl, ?_, Chg.of_below hb⟩
    show Value.string ⟨(Lib.join (x :: r) [44, 32]).toArray⟩ = _
    rw [joinC_eq]
theorem joinC_len (l : List (List UInt8)) (B : Nat) (h : ∀ x ∈ l, x.length ≤ B) : (joinC l).length ≤ l.length * (B + 2) := by
  match l with
  | [] => simp [joinC]
  | [x] => have := h x (by simp); simp [joinC]; omega
  | x :: y :: r =>
    have ih := joinC_len (y :: r) B (fun z hz => h z (.tail _ hz))
    have := h x (by simp)
    simp only [joinC, List.length_append, List.length_cons, List.length_nil, Nat.add_mul] at ih ⊢
    omega
end Go.Proofs.YtnmhlpnapgojjaaDoor


namespace Go.Proofs.YtnmhlpnapgojjaaDoor
open Go.RowKit Sx LexS
set_option linter.unusedVariables false
set_option linter.unusedSimpArgs false
theorem Tryd.info9 : Tryd.prog.info? 9 = some Tryd.t9 := by kernel_rfl
theorem take_map_succ {ds : List Dc} {j : Nat} {x : Dc} (h : ds[j]? = some x) : strsL ((ds.take (j + 1)).map dcT) = strsL ((ds.take j).map dcT) ++ [str (dcT x)] := by
  obtain ⟨hj, e⟩ := List.getElem?_eq_some_iff.1 h
  rw [List.take_succ_eq_append_getElem hj, e]; simp
theorem strs_nth {ps : List (List UInt8)} {j : Nat} {x : List UInt8} (h : ps[j]? = some x) : nth (ps.map str) j = some (str x) := by
  rw [nth_eq, List.getElem?_map, h]; rfl
section
variable {n0 : Nat}

set_option maxHeartbeats 2000000 in
theorem wdecls_any (ds : List Dc) (b : Bool) (hR : ds.all (dcOk b) = true) (hok : OkD ds) (word : List UInt8) (hwd : word.length ≤ 100) (d : Nat) (hd : d ≤ 1000) (oa : Option Addr) (cap : Nat) (bw : Nat) (v : Value) (F : List UInt8) (w : World) (hD : DcRow w (· < n0) oa ds) (hW : Wr 5 n0 47 bw v F w) (hn0 : n0 ≤ w.heap.size) :
    Ret Tryd.prog 19 [.pointer (some ⟨bw, 0, none⟩), .int .i64 (d : Int), str word, .slice oa ds.length cap] w fun r w' => r = .tuple #[] ∧ WrP 5 n0 47 bw v (F ++ dcsT word d ds) w w' := by
  refine ret_of [_, _, _, _] Tryd.func19 rfl Tryd.ntmps19 rfl ?_
  have st := St.init w []
  clear st
  obtain ⟨w0, rfl⟩ : ∃ w0, w0 = w := ⟨_, rfl⟩
  have st := St.wrInit hW
  have hn := hok.1
  refine vc_seq ?_
  refine vc_seq ?_
  refine vc_region ?_
  refine vc_y rfl rfl (y_mv rfl) ?_
  refine vc_y rfl rfl (y_lensl rfl Tryd.underlying22) ?_
  refine vc_y rfl rfl (y_eqi rfl rfl) ?_
  refine vc_end ?_
  refine vq_then ?_
  refine vc_keep [(0, _), (1, _), (2, _), (3, _), (14, _)] ⟨rfl, rfl, rfl, rfl, rfl, trivial⟩ ?_
  refine vc_ifs rfl ?_ ?_
  · intro hc14
    try simp only [dn] at hc14
    refine vc_ret ?_
    refine vq_then_ret ?_
    refine vq_ret0 (.inl rfl) Tryd.results19 ?_
    refine ⟨_, rfl, ?_⟩
    refine ⟨rfl, (st.wrDone (i := 0) rfl).eq ?_⟩
    unfold dcsT
    rw [if_pos (by omega), List.append_nil]
  · intro hc14
    try simp only [dn] at hc14
    refine vc_code_skip ?_
    refine vq_then ?_
    refine vc_keep [(0, _), (1, _), (2, _), (3, _)] ⟨rfl, rfl, rfl, rfl, trivial⟩ ?_
    refine vc_seq ?_
    refine vc_region ?_
    refine vc_y rfl rfl (y_as rfl) ?_
    refine vc_end ?_
    refine vq_then ?_
    refine vc_keep [(0, _), (1, _), (2, _), (3, _), (8, _)] ⟨rfl, rfl, rfl, rfl, rfl, trivial⟩ ?_
    refine vc_seq ?_
    refine vc_seq ?_
    refine vc_region ?_
    refine vc_y rfl rfl (y_mv rfl) ?_
    refine vc_y rfl rfl (y_lensl rfl Tryd.underlying22) ?_
    refine vc_y rfl rfl (y_mv rfl) ?_
    refine vc_end ?_
    refine vq_then ?_
    refine vc_keep [(0, _), (1, _), (2, _), (8, _), (15, _), (16, _), (17, _)] ⟨rfl, rfl, rfl, rfl, rfl, rfl, rfl, trivial⟩ ?_
    refine vc_block ?_
    refine vc_loop (w0 := w0) (M := (bw :: v.ownBlock.toList)) (fun (y : Nat × Option Addr × Nat) => [(0, .pointer (some ⟨bw, 0, none⟩)), (1, .int .i64 (d : Int)), (2, str word), (8, .slice y.2.1 y.1 y.2.2), (15, .slice oa ds.length cap), (16, .int .i64 (ds.length : Int)), (17, .int .i64 (y.1 : Int))]) (fun y => [.own (.slice y.2.1 y.1 y.2.2) 9 1 y.1 (strsL ((ds.take y.1).map dcT)), wrR (bw :: v.ownBlock.toList) w0.heap.size 5 n0 47 bw v F]) (fun y _ => y.1 ≤ ds.length) (fun y => ds.length - y.1) (0, none, 0) ⟨rfl, rfl, rfl, rfl, rfl, rfl, rfl, trivial⟩ (st.ownNil 9 1) (by simp) ?_
    clear st
    rintro ⟨j, oj, cj⟩ w hj st
    dsimp only at *
    refine vc_seq ?_
    refine vc_region ?_
    refine vc_y rfl rfl (y_lss rfl rfl) ?_
    refine vc_end ?_
    refine vq_then ?_
    refine vc_keep [(0, _), (1, _), (2, _), (8, _), (15, _), (16, _), (17, _), (18, _)] ⟨rfl, rfl, rfl, rfl, rfl, rfl, rfl, rfl, trivial⟩ ?_
    refine vc_seq ?_
    refine vc_ifs rfl ?_ ?_
    · intro hc18
      try simp only [dn] at hc18
      obtain ⟨x, hx⟩ : ∃ x, ds[j]? = some x := ⟨_, List.getElem?_eq_getElem (by omega)⟩
      obtain ⟨gb, go, rfl, hgS, hgl, hg⟩ := DcRow.at hD (by omega)
      have hc := hg j x hx
      have hxo := hok.2 j x hx
      have hxr : dcOk b x = true := List.all_eq_true.1 hR x (List.mem_of_getElem? hx)
      have hxn : x.nm.length ≤ 32 := by unfold dcOk at hxr; simp only [Bool.and_eq_true] at hxr; exact isName_le hxr.1
      have hxs := shw_le x.wd hxo.1
      have htm := take_map_succ hx
      refine vc_code_skip ?_
      refine vq_then ?_
      refine vc_keep [(0, _), (1, _), (2, _), (8, _), (15, _), (16, _), (17, _)] ⟨rfl, rfl, rfl, rfl, rfl, rfl, rfl, trivial⟩ ?_
      refine vc_seq ?_
      refine vc_block ?_
      refine vc_seq ?_
      refine vc_region ?_
      refine vc_y rfl rfl ((by exact y_ia (k := j) rfl rfl Tryd.underlying22 Tryd.sizeOf67 rfl (by omega))) ?_
      refine vc_y rfl rfl ((by exact y_ldca (dcL x) rfl Tryd.isAgg67 Tryd.sizeOf67 rfl (fun i v hi => st.chg.cell (hc i v hi) (hW.notin hgS)))) ?_
      refine vc_e (e_al (l := [_, _, _]) st rfl rfl Tryd.zeroValue67 rfl ?_)
      intro b10 w hb10 st
      refine vc_e (e_sts (vs := [_, _, _]) st 0 rfl rfl rfl rfl rfl Tryd.sizeOf67 rfl rfl (by first | (right; assumption) | (left; simp)) ?_)
      intro w st; dsimp only [setNth, wr] at st
      refine vc_end ?_
      refine vq_then ?_
      refine vc_keep [(0, _), (1, _), (2, _), (8, _), (10, _), (15, _), (16, _), (17, _)] ⟨rfl, rfl, rfl, rfl, rfl, rfl, rfl, rfl, trivial⟩ ?_
      refine vc_seq ?_
      refine vc_region ?_
      refine vc_y rfl rfl (y_fa0 rfl Tryd.underlying67 rfl rfl Tryd.sizeOf9 rfl) ?_
      refine vc_y rfl rfl ((by exact y_ld st 0 rfl Tryd.isAgg9 rfl rfl)) ?_
      refine vc_y rfl rfl (y_as rfl) ?_
      refine vc_end ?_
      refine vq_then ?_
      refine vc_keep [(0, _), (1, _), (2, _), (8, _), (10, _), (11, _), (15, _), (16, _), (17, _)] ⟨rfl, rfl, rfl, rfl, rfl, rfl, rfl, rfl, rfl, trivial⟩ ?_
      refine vc_cut (w0 := w0) (M := (bw :: v.ownBlock.toList)) (fun (_ : Unit) => [(0, .pointer (some ⟨bw, 0, none⟩)), (1, .int .i64 (d : Int)), (2, str word), (8, .slice oj j cj), (11, str (dcT x)), (15, .slice (some ⟨gb, go, none⟩) ds.length cap), (16, .int .i64 (ds.length : Int)), (17, .int .i64 (j : Int))]) (fun _ => [.own (.slice oj j cj) 9 1 j (strsL ((ds.take j).map dcT)), wrR (bw :: v.ownBlock.toList) w0.heap.size 5 n0 47 bw v F]) (fun _ _ => True) ?_ ?_
      ·
        refine vc_seq ?_
        refine vc_region ?_
        refine vc_y rfl rfl ((by exact y_faz (k := 1) rfl Tryd.underlying67 rfl rfl Tryd.sizeOf2 rfl)) ?_
        refine vc_y rfl rfl ((by exact y_ld st 0 rfl Tryd.isAgg2 rfl rfl)) ?_
        refine vc_y rfl rfl (y_nei rfl rfl) ?_
        refine vc_end ?_
        refine vq_then ?_
        refine vc_keep [(0, _), (1, _), (2, _), (8, _), (10, _), (11, _), (15, _), (16, _), (17, _), (25, _)] ⟨rfl, rfl, rfl, rfl, rfl, rfl, rfl, rfl, rfl, rfl, trivial⟩ ?_
        refine vc_ifs rfl ?_ ?_
        · intro hc25
          try simp only [dn] at hc25
          refine vc_region ?_
          refine vc_y rfl rfl (y_mv rfl) ?_
          refine vc_y rfl rfl ((by exact y_faz (k := 1) rfl Tryd.underlying67 rfl rfl Tryd.sizeOf2 rfl)) ?_
          refine vc_y rfl rfl ((by exact y_ld st 0 rfl Tryd.isAgg2 rfl rfl)) ?_
          refine vc_e (e_call [_] rfl rfl Tryd.call48 rfl (wprint_any _ _ hxo.1) ?_)
          rintro _ w ⟨rfl, cw⟩
          replace st := st.call0 cw
          refine vc_y rfl rfl (y_cat rfl rfl (by simp only [List.length_append, List.length_cons, List.length_nil]; omega)) ?_
          refine vc_y rfl rfl (y_cat rfl rfl (by simp only [List.length_append, List.length_cons, List.length_nil]; omega)) ?_
          refine vc_y rfl rfl (y_as rfl) ?_
          refine vc_end ?_
          refine vq_meet () ⟨rfl, rfl, rfl, rfl, by simp only [Sx.put, find, Nat.beq]; unfold dcT; first | rw [if_pos (by omega : x.wd = 0), List.append_nil] | rw [if_neg (by omega : ¬ x.wd = 0)], rfl, rfl, rfl, trivial⟩ (st.drop (by repeat (first | exact sl0 | apply sl1 | apply sl2))) ?_
          · trivial
        · intro hc25
          try simp only [dn] at hc25
          refine vc_code_skip ?_
          refine vq_meet () ⟨rfl, rfl, rfl, rfl, by simp only [Sx.put, find, Nat.beq]; unfold dcT; first | rw [if_pos (by omega : x.wd = 0), List.append_nil] | rw [if_neg (by omega : ¬ x.wd = 0)], rfl, rfl, rfl, trivial⟩ (st.drop (by repeat (first | exact sl0 | apply sl1 | apply sl2))) ?_
          · trivial
      ·
        clear st
        rintro ⟨⟩ w - st
        refine vc_region ?_
        refine vc_y rfl rfl (y_mv rfl) ?_
        refine vc_y rfl rfl (y_mv rfl) ?_
        refine vc_e (e_bs1 (l := [_]) st rfl rfl rfl rfl Tryd.underlying36 Tryd.sizeOf9 rfl rfl rfl Tryd.zeroValue9 ?_)
        intro b34 w hb34 st
        refine vc_e (e_app (bytes := 16) st 1 0 rfl rfl rfl rfl rfl rfl Tryd.underlying36 Tryd.info9 rfl rfl rfl rfl rfl (by simp) rfl rfl (by unfold maxLen; omega) (by omega) ?_)
        intro oa35 cap35 w st; dsimp only [setNth] at st
        refine vc_y rfl rfl (y_as rfl) ?_
        refine vc_end ?_
        refine vq_block ?_
        refine vq_then ?_
        refine vc_keep [(0, _), (1, _), (2, _), (8, _), (15, _), (16, _), (17, _)] ⟨rfl, rfl, rfl, rfl, rfl, rfl, rfl, trivial⟩ ?_
        refine vc_region ?_
        refine vc_y rfl rfl (y_add rfl rfl (by omega : _ = ((j + 1 : Nat) : Int)) (by omega) (by omega)) ?_
        refine vc_y rfl rfl (y_mv rfl) ?_
        refine vc_end ?_
        refine vq_again (j + 1, oa35, cap35)  ⟨rfl, rfl, rfl, rfl, rfl, rfl, rfl, trivial⟩ (by rw [htm]; exact st.drop (by repeat (first | exact sl0 | apply sl1 | apply sl2))) ?_ ?_
        · dsimp only; omega
        · dsimp only; omega
    · intro hc18
      try simp only [dn] at hc18
      obtain rfl : j = ds.length := by omega
      rw [List.take_length] at st
      have hjl : (joinC (ds.map dcT)).length ≤ ds.length * 57 := by
        have h := joinC_len (ds.map dcT) 55 (fun z hz => by
          obtain ⟨q, hq, rfl⟩ := List.mem_map.1 hz
          have hqr : dcOk b q = true := List.all_eq_true.1 hR q hq
          have h1 : q.nm.length ≤ 32 := by unfold dcOk at hqr; simp only [Bool.and_eq_true] at hqr; exact isName_le hqr.1
          obtain ⟨i, hi⟩ := List.mem_iff_getElem?.1 hq
          have h2 := shw_le q.wd (hok.2 i q hi).1
          unfold dcT
          split <;> simp <;> omega)
        simpa using h
      refine vc_exit ?_
      refine vq_then_exit ?_
      refine vq_then_exit ?_
      refine vq_block_exit ?_
      refine vq_then ?_
      refine vc_keep [(0, _), (1, _), (2, _), (8, _)] ⟨rfl, rfl, rfl, rfl, trivial⟩ ?_
      refine vc_region ?_
      refine vc_y rfl rfl (y_mv rfl) ?_
      refine vc_y rfl rfl (y_mv rfl) ?_
      refine vc_y rfl rfl (y_mv rfl) ?_
      refine vc_y rfl rfl (y_mv rfl) ?_
      refine vc_e (e_call [_, _] rfl rfl Tryd.call49 rfl (by have h := joinC_any (ds.map dcT) oj cj _ _ (by rw [List.length_map]; exact st.res (i := 0) rfl) (by omega) (by rw [List.length_map]; omega); rw [List.length_map] at h; exact h) ?_)
      rintro _ w ⟨rfl, cw⟩
      replace st := st.call0 cw
      refine vc_e (e_bsn (l := [word, [32], joinC (ds.map dcT), [59]].map str) (E := 9) st [(0, _), (1, _), (2, _), (3, _)] rfl rfl rfl (fun w => by simp [Instr.buildSlice, run_underlying Tryd.underlying36, Tryd.sizeOf9, Tryd.zeroValue9, Instr.fill, newRow, newObj, Sem.run, go_sem]) ?_)
      intro b42 w hb42 st
      refine vc_e (e_call [_, _, _] rfl rfl Tryd.call20 rfl (line_any repeat_any bw _ _ d hd [word, [32], joinC (ds.map dcT), [59]] (by simp) (by simp; omega) b42 _ _ (st.wrGet (i := 2) rfl) (Nat.le_trans hn0 st.chg.size) (fun j x hx => cell_nth (st.res (i := 0) rfl) (strs_nth hx)) (fun hk => apart_nth st.nodup (i := 0) (j := 2) (by decide) rfl rfl _ (.head _) hk)) ?_)
      rintro _ w ⟨rfl, hp⟩
      obtain ⟨v9, st⟩ := st.wr (i := 2) rfl hp
      dsimp only [setNth] at st
      refine vc_end ?_
      refine vq_ret0 (.inr rfl) Tryd.results19 ?_
      refine ⟨_, rfl, ?_⟩
      refine ⟨rfl, (st.wrDone (i := 2) rfl).eq ?_⟩
      unfold dcsT
      rw [if_neg (by omega)]
      simp

end
end Go.Proofs.YtnmhlpnapgojjaaDoor


namespace Go.Proofs.YtnmhlpnapgojjaaDoor
open Go.RowKit Sx LexS
set_option linter.unusedVariables false
set_option linter.unusedSimpArgs false
theorem txtSs_app : ∀ (a b : List Sm) (d : Nat), txtSs (a ++ b) d = txtSs a d ++ txtSs b d
  | [], b, d => rfl
  | s :: r, b, d => by simp only [List.cons_append, txtSs]; rw [txtSs_app r b d, List.append_assoc]
theorem txtSs_succ {ss : List Sm} {d j : Nat} {s : Sm} (h : ss[j]? = some s) : txtSs (ss.take (j + 1)) d = txtSs (ss.take j) d ++ txtS s d := by
  obtain ⟨hj, e⟩ := List.getElem?_eq_some_iff.1 h
  rw [List.take_succ_eq_append_getElem hj, txtSs_app, e]
  simp [txtSs]
theorem txtSs_split (ss : List Sm) (d j : Nat) : txtSs ss d = txtSs (ss.take j) d ++ txtSs (ss.drop j) d := by
  rw [← txtSs_app, List.take_append_drop]
/-- how a statement's text begins -/
def hdS (s : Sm) : List UInt8 :=
  if s.k = 1 then s.nm ++ [32, 61, 32] ++ txX s.e ++ [59, 10]
  else if s.k = 2 then s.nm ++ [32, 61, 32, 115, 119, 97, 112, 40] ++ s.other ++ [44, 32] ++ txX s.e ++ [41, 59, 10]
  else if s.k = 6 then [112, 114, 105, 110, 116, 32] ++ txX s.e ++ [59, 10]
  else if s.k = 7 then [115, 107, 105, 112, 59, 10]
  else if s.k = 5 then [108, 111, 99, 107, 32] ++ s.nm ++ [32, 123, 10]
  else (if s.k = 4 then [119, 104, 105, 108, 101, 32, 40] else [105, 102, 32, 40]) ++ txX s.e ++ [41, 32, 123, 10]
theorem txtS_flat {s : Sm} {d : Nat} (h : s.k = 1 ∨ s.k = 2 ∨ s.k = 6 ∨ s.k = 7) : txtS s d = mar d ++ hdS s := by
  cases s with
  | mk k nm other e body els a =>
    change k = 1 ∨ k = 2 ∨ k = 6 ∨ k = 7 at h
    unfold txtS hdS
    simp only [Sm.k, Sm.nm, Sm.other, Sm.e]
    rcases h with rfl | rfl | rfl | rfl <;> rfl
theorem txtS_lock {s : Sm} {d : Nat} (h : s.k = 5) : txtS s d = mar d ++ hdS s ++ txtSs s.body (d + 1) ++ mar d ++ [125, 10] := by
  cases s with
  | mk k nm other e body els a =>
    change k = 5 at h
    subst h
    unfold txtS hdS
    simp only [Sm.k, Sm.nm, Sm.other, Sm.e, Sm.body]
    rfl
theorem txtS_cond {s : Sm} {d : Nat} (h : s.k = 3 ∨ s.k = 4) : txtS s d = mar d ++ hdS s ++ txtSs s.body (d + 1) ++ (if 0 < s.els.length then mar d ++ [125, 32, 101, 108, 115, 101, 32, 123, 10] ++ txtSs s.els (d + 1) else []) ++ mar d ++ [125, 10] := by
  cases s with
  | mk k nm other e body els a =>
    change k = 3 ∨ k = 4 at h
    unfold txtS hdS
    simp only [Sm.k, Sm.nm, Sm.other, Sm.e, Sm.body, Sm.els]
    rcases h with rfl | rfl <;> rfl
theorem txX_eq {e : List Ex} {x : Ex} (h : e[0]? = some x) : txX e = txtE x := by
  cases e with
  | nil => simp at h
  | cons y r => simp at h; subst h; rfl
theorem rightX_inv {b : Bool} {e : List Ex} (hb : b = true) (h : rightX b e = true) : ∃ x, e[0]? = some x ∧ e.length = 1 ∧ rightE x 0 = true := by
  subst hb
  by_cases h1 : e.length = 1
  · obtain ⟨x, hx⟩ := get0 h1 (by omega)
    rw [rightX_t h1 hx] at h
    exact ⟨x, hx, h1, h⟩
  · rw [rightX_n h1] at h; cases h
end Go.Proofs.YtnmhlpnapgojjaaDoor


namespace Go.Proofs.YtnmhlpnapgojjaaDoor
open Go.RowKit Sx LexS
set_option linter.unusedVariables false
set_option linter.unusedSimpArgs false
section
variable {n0 : Nat}

end
end Go.Proofs.YtnmhlpnapgojjaaDoor


namespace Go.Proofs.YtnmhlpnapgojjaaDoor
open Go.RowKit Sx LexS
set_option linter.unusedVariables false
set_option linter.unusedSimpArgs false
section
variable {n0 : Nat}

end
end Go.Proofs.YtnmhlpnapgojjaaDoor

