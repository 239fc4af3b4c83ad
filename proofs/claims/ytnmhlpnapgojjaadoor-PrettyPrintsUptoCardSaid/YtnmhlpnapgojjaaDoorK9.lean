/- A part of the proof: contracts of functions and plain laws; each theorem says its own conditions. -/
import Derived.Test.YtnmhlpnapgojjaaDoorK7
import Derived.Test.YtnmhlpnapgojjaaDoorK1
import Derived.Test.YtnmhlpnapgojjaaDoorTrydShelfP
import Derived.Test.YtnmhlpnapgojjaaDoorK4
namespace Go.Proofs.YtnmhlpnapgojjaaDoor
open Go.RowKit Sx LexS _root_.Go.Proofs.Tryd
set_option linter.unusedVariables false
set_option linter.unusedSimpArgs false
theorem repeatL_mar : ∀ d, Lib.repeatL [32, 32] d = mar d
 | 0 => rfl
 | d + 1 => by
  show [32, 32] ++ Lib.repeatL [32, 32] d = _
  rw [repeatL_mar d]
  unfold mar
  rw [show 2 * (d + 1) = 2 * d + 2 by omega]
  rfl
theorem repeat_any (d : Nat) (w : World) (hd : d ≤ 1000) : Ret Tryd.prog 50 [str [32, 32], .int .i64 (d : Int)] w fun v w' => v = str (mar d) ∧ Chg [] w w' := by
 have key := Tryd.strings_Repeat ⟨[32, 32].toArray⟩ d w (by omega) (by show 2 * d ≤ _; omega)
 refine Calls.mono key ?_
 rintro e w' ⟨rfl, hb⟩
 refine ⟨_, rfl, ?_, Chg.of_below hb⟩
 show Value.string ⟨(Lib.repeatL [32, 32] d).toArray⟩ = _
 have e := repeatL_mar d
 rw [e]
abbrev strsL (l : List (List UInt8)) : List Value := l.map str
theorem joinC_eq (l : List (List UInt8)) : Lib.join l [44, 32] = joinC l := by
 unfold Lib.join
 match l with
 | [] => rfl
 | [x] => simp [joinC, List.intercalate]
 | x :: y :: r =>
  have ih := joinC_eq (y :: r)
  unfold Lib.join at ih
  simp only [joinC]
  rw [← ih]
  simp [List.intercalate]
theorem joinC_any (l : List (List UInt8)) (oa : Option Addr) (cap base : Nat) (w : World) (ho : w.ownsRow base 9 1 (.slice oa l.length cap) l.length (strsL l)) (hlen : (joinC l).length ≤ 140737488355328) (hl : l.length ≤ 140737488355328) :
    Ret Tryd.prog 49 [.slice oa l.length cap, str [44, 32]] w fun v w' => v = str (joinC l) ∧ Chg [] w w' := by
 rcases l with _ | ⟨x, r⟩
 ·
  refine Calls.mono (Tryd.strings_Join_none oa cap ⟨[44, 32].toArray⟩ w) ?_
  rintro e w' ⟨rfl, rfl⟩
  exact ⟨_, rfl, rfl, Chg.refl _ _⟩
 ·
  obtain ⟨g, cap', e, hg⟩ := own_form ho (by simp)
  simp only [Value.slice.injEq] at e
  obtain ⟨rfl, -, rfl⟩ := e
  have hblk := (World.ownsRow.lt ho g (by simp [Value.ownBlock])).2
  have hcap : (x :: r).length ≤ cap := by
   rcases ho.2 with ⟨h, _⟩ | ⟨g', c', cur, h, _, _, h1, _⟩
   ·
    cases h
   ·
    simp only [Value.slice.injEq] at h; omega
  have hm : ((x :: r).map fun t => (⟨t.toArray⟩ : ByteArray)).map (·.data.toList) = x :: r := by simp [Function.comp_def]
  have key := Tryd.strings_Join g 0 cap ((x :: r).map fun t => (⟨t.toArray⟩ : ByteArray)) ⟨[44, 32].toArray⟩ w (fun j y hj => by
    rw [Nat.zero_add]
    refine own_cell ho ?_
    rw [List.getElem?_map] at hj ⊢
    cases hq : (x :: r)[j]? with
    | none => rw [hq] at hj; cases hj
    | some q => rw [hq] at hj; cases hj; rfl) hblk (by simpa using hl) (by simpa using hcap) (by rw [hm]; show (Lib.join (x :: r) [44, 32]).length ≤ _; rw [joinC_eq]; exact hlen)
  rw [hm, List.length_map] at key
  refine Calls.mono key ?_
  rintro e w' ⟨rfl, hb⟩
  refine ⟨_, rfl, ?_, Chg.of_below hb⟩
  show Value.string ⟨(Lib.join (x :: r) [44, 32]).toArray⟩ = _
  rw [joinC_eq]
theorem joinC_len (l : List (List UInt8)) (B : Nat) (h : ∀ x ∈ l, x.length ≤ B) : (joinC l).length ≤ l.length * (B + 2) := by
 match l with
 | [] => simp [joinC]
 | [x] => have := h x (by simp); simp [joinC]; omega
 | x :: y :: r =>
  have ih := joinC_len (y :: r) B (fun z hz => h z (.tail _ hz))
  have := h x (by simp)
  simp only [joinC, List.length_append, List.length_cons, List.length_nil, Nat.add_mul] at ih ⊢
  omega
end Go.Proofs.YtnmhlpnapgojjaaDoor

namespace Go.Proofs.YtnmhlpnapgojjaaDoor
open Go.RowKit Sx LexS _root_.Go.Proofs.Tryd
set_option linter.unusedVariables false
set_option linter.unusedSimpArgs false
theorem Tryd.info9 : Tryd.prog.info? 9 = some Tryd.t9 := by kernel_rfl
theorem take_map_succ {ds : List Dc} {j : Nat} {x : Dc} (h : ds[j]? = some x) : strsL ((ds.take (j + 1)).map dcT) = strsL ((ds.take j).map dcT) ++ [str (dcT x)] := by
 obtain ⟨hj, e⟩ := List.getElem?_eq_some_iff.1 h
 rw [List.take_succ_eq_append_getElem hj, e]; simp
theorem strs_nth {ps : List (List UInt8)} {j : Nat} {x : List UInt8} (h : ps[j]? = some x) : nth (ps.map str) j = some (str x) := by
 rw [nth_eq, List.getElem?_map, h]; rfl
section
variable {n0 : Nat}

set_option maxHeartbeats 2000000 in
theorem wdecls_any (ds : List Dc) (b : Bool) (hR : ds.all (dcOk b) = true) (hok : OkD ds) (word : List UInt8) (hwd : word.length ≤ 100) (d : Nat) (hd : d ≤ 1000) (oa : Option Addr) (cap : Nat) (bw : Nat) (v : Value) (F : List UInt8) (w : World) (hD : DcRow w (· < n0) oa ds) (hW : Wr 5 n0 47 bw v F w) (hn0 : n0 ≤ w.heap.size) :
    Ret Tryd.prog 19 [.pointer (some ⟨bw, 0, none⟩), .int .i64 (d : Int), str word, .slice oa ds.length cap] w fun r w' => r = .tuple #[] ∧ WrP 5 n0 47 bw v (F ++ dcsT word d ds) w w' := by
 refine ret_of [_, _, _, _] func19 rfl ntmps19 rfl ?_
 have st := St.init w []
 clear st
 obtain ⟨w0, rfl⟩ : ∃ w0, w0 = w := ⟨_, rfl⟩
 have st := St.wrInit hW
 have hn := hok.1
 refine vc_seq (vc_seq (vc_region ?_))
 refine vc_y rfl rfl (y_mv rfl) ?_
 refine vc_y rfl rfl (y_lensl rfl underlying22) ?_
 refine vc_y rfl rfl (y_eqi rfl rfl) ?_
 refine vc_end (vq_then (vc_keep [(0, _), (1, _), (2, _), (3, _), (14, _)] ⟨rfl, rfl, rfl, rfl, rfl, trivial⟩ ?_))
 refine vc_ifs rfl ?_ ?_
 ·
  intro hc14
  try simp only [dn] at hc14
  refine vc_ret (vq_then_ret ?_)
  refine vq_ret0 (.inl rfl) results19 ?_
  refine ⟨_, rfl, ?_⟩
  refine ⟨rfl, (st.wrDone (i := 0) rfl).eq ?_⟩
  unfold dcsT
  rw [if_pos (by omega), List.append_nil]
 ·
  intro hc14
  try simp only [dn] at hc14
  refine vc_code_skip (vq_then (vc_keep [(0, _), (1, _), (2, _), (3, _)] ⟨rfl, rfl, rfl, rfl, trivial⟩ (vc_seq (vc_region ?_))))
  refine vc_y rfl rfl (y_as rfl) ?_
  refine vc_end (vq_then (vc_keep [(0, _), (1, _), (2, _), (3, _), (8, _)] ⟨rfl, rfl, rfl, rfl, rfl, trivial⟩ (vc_seq (vc_seq (vc_region ?_)))))
  refine vc_y rfl rfl (y_mv rfl) ?_
  refine vc_y rfl rfl (y_lensl rfl underlying22) ?_
  refine vc_y rfl rfl (y_mv rfl) ?_
  refine vc_end (vq_then (vc_keep [(0, _), (1, _), (2, _), (8, _), (15, _), (16, _), (17, _)] ⟨rfl, rfl, rfl, rfl, rfl, rfl, rfl, trivial⟩ (vc_block ?_)))
  refine vc_loop (w0 := w0) (M := (bw :: v.ownBlock.toList)) (fun (y : Nat × Option Addr × Nat) => [(0, .pointer (some ⟨bw, 0, none⟩)), (1, .int .i64 (d : Int)), (2, str word), (8, .slice y.2.1 y.1 y.2.2), (15, .slice oa ds.length cap), (16, .int .i64 (ds.length : Int)), (17, .int .i64 (y.1 : Int))]) (fun y => [.own (.slice y.2.1 y.1 y.2.2) 9 1 y.1 (strsL ((ds.take y.1).map dcT)), wrR (bw :: v.ownBlock.toList) w0.heap.size 5 n0 47 bw v F]) (fun y _ => y.1 ≤ ds.length) (fun y => ds.length - y.1) (0, none, 0) ⟨rfl, rfl, rfl, rfl, rfl, rfl, rfl, trivial⟩ (st.ownNil 9 1) (by simp) ?_
  clear st
  rintro ⟨j, oj, cj⟩ w hj st
  dsimp only at *
  refine vc_seq (vc_region ?_)
  refine vc_y rfl rfl (y_lss rfl rfl) ?_
  refine vc_end (vq_then (vc_keep [(0, _), (1, _), (2, _), (8, _), (15, _), (16, _), (17, _), (18, _)] ⟨rfl, rfl, rfl, rfl, rfl, rfl, rfl, rfl, trivial⟩ (vc_seq ?_)))
  refine vc_ifs rfl ?_ ?_
  ·
   intro hc18
   try simp only [dn] at hc18
   obtain ⟨x, hx⟩ : ∃ x, ds[j]? = some x := ⟨_, List.getElem?_eq_getElem (by omega)⟩
   obtain ⟨gb, go, rfl, hgS, hgl, hg⟩ := DcRow.at hD (by omega)
   have hc := hg j x hx
   have hxo := hok.2 j x hx
   have hxr : dcOk b x = true := List.all_eq_true.1 hR x (List.mem_of_getElem? hx)
   have hxn : x.nm.length ≤ 32 := by unfold dcOk at hxr; simp only [Bool.and_eq_true] at hxr; exact isName_le hxr.1
   have hxs := shw_le x.wd hxo.1
   have htm := take_map_succ hx
   refine vc_code_skip (vq_then (vc_keep [(0, _), (1, _), (2, _), (8, _), (15, _), (16, _), (17, _)] ⟨rfl, rfl, rfl, rfl, rfl, rfl, rfl, trivial⟩ (vc_seq (vc_block (vc_seq (vc_region ?_))))))
   refine vc_y rfl rfl ((by exact y_ia (k := j) rfl rfl underlying22 sizeOf67 rfl (by omega))) ?_
   refine vc_y rfl rfl ((by exact y_ldca (dcL x) rfl isAgg67 sizeOf67 rfl (fun i v hi => st.chg.cell (hc i v hi) (hW.notin hgS)))) ?_
   refine vc_e (e_al (l := [_, _, _]) st rfl rfl zeroValue67 rfl ?_)
   intro b10 w hb10 st
   refine vc_e (e_sts (vs := [_, _, _]) st 0 rfl rfl rfl rfl rfl sizeOf67 rfl rfl (by first | (right; assumption) | (left; simp)) ?_)
   intro w st; dsimp only [setNth, wr] at st
   refine vc_end (vq_then (vc_keep [(0, _), (1, _), (2, _), (8, _), (10, _), (15, _), (16, _), (17, _)] ⟨rfl, rfl, rfl, rfl, rfl, rfl, rfl, rfl, trivial⟩ (vc_seq (vc_region ?_))))
   refine vc_y rfl rfl (y_fa0 rfl underlying67 rfl rfl sizeOf9 rfl) ?_
   refine vc_y rfl rfl ((by exact y_ld st 0 rfl isAgg9 rfl rfl)) ?_
   refine vc_y rfl rfl (y_as rfl) ?_
   refine vc_end (vq_then (vc_keep [(0, _), (1, _), (2, _), (8, _), (10, _), (11, _), (15, _), (16, _), (17, _)] ⟨rfl, rfl, rfl, rfl, rfl, rfl, rfl, rfl, rfl, trivial⟩ ?_))
   refine vc_cut (w0 := w0) (M := (bw :: v.ownBlock.toList)) (fun (_ : Unit) => [(0, .pointer (some ⟨bw, 0, none⟩)), (1, .int .i64 (d : Int)), (2, str word), (8, .slice oj j cj), (11, str (dcT x)), (15, .slice (some ⟨gb, go, none⟩) ds.length cap), (16, .int .i64 (ds.length : Int)), (17, .int .i64 (j : Int))]) (fun _ => [.own (.slice oj j cj) 9 1 j (strsL ((ds.take j).map dcT)), wrR (bw :: v.ownBlock.toList) w0.heap.size 5 n0 47 bw v F]) (fun _ _ => True) ?_ ?_
   ·
    refine vc_seq (vc_region ?_)
    refine vc_y rfl rfl ((by exact y_faz (k := 1) rfl underlying67 rfl rfl sizeOf2 rfl)) ?_
    refine vc_y rfl rfl ((by exact y_ld st 0 rfl isAgg2 rfl rfl)) ?_
    refine vc_y rfl rfl (y_nei rfl rfl) ?_
    refine vc_end (vq_then (vc_keep [(0, _), (1, _), (2, _), (8, _), (10, _), (11, _), (15, _), (16, _), (17, _), (25, _)] ⟨rfl, rfl, rfl, rfl, rfl, rfl, rfl, rfl, rfl, rfl, trivial⟩ ?_))
    refine vc_ifs rfl ?_ ?_
    ·
     intro hc25
     try simp only [dn] at hc25
     refine vc_region ?_
     refine vc_y rfl rfl (y_mv rfl) ?_
     refine vc_y rfl rfl ((by exact y_faz (k := 1) rfl underlying67 rfl rfl sizeOf2 rfl)) ?_
     refine vc_y rfl rfl ((by exact y_ld st 0 rfl isAgg2 rfl rfl)) ?_
     refine vc_e (e_call [_] rfl rfl call48 rfl (wprint_any _ _ hxo.1) ?_)
     rintro _ w ⟨rfl, cw⟩
     replace st := st.call0 cw
     iterate 2 refine vc_y rfl rfl (y_cat rfl rfl (by simp only [List.length_append, List.length_cons, List.length_nil]; omega)) ?_
     refine vc_y rfl rfl (y_as rfl) ?_
     refine vc_end ?_
     refine vq_meet () ⟨rfl, rfl, rfl, rfl, by simp only [Sx.put, find, Nat.beq]; unfold dcT; first | rw [if_pos (by omega : x.wd = 0), List.append_nil] | rw [if_neg (by omega : ¬ x.wd = 0)], rfl, rfl, rfl, trivial⟩ (st.drop (by repeat (first | exact sl0 | apply sl1 | apply sl2))) ?_
     ·
      trivial
    ·
     intro hc25
     try simp only [dn] at hc25
     refine vc_code_skip ?_
     refine vq_meet () ⟨rfl, rfl, rfl, rfl, by simp only [Sx.put, find, Nat.beq]; unfold dcT; first | rw [if_pos (by omega : x.wd = 0), List.append_nil] | rw [if_neg (by omega : ¬ x.wd = 0)], rfl, rfl, rfl, trivial⟩ (st.drop (by repeat (first | exact sl0 | apply sl1 | apply sl2))) ?_
     ·
      trivial
   ·
    clear st
    rintro ⟨⟩ w - st
    refine vc_region ?_
    iterate 2 refine vc_y rfl rfl (y_mv rfl) ?_
    refine vc_e (e_bs1 (l := [_]) st rfl rfl rfl rfl underlying36 sizeOf9 rfl rfl rfl zeroValue9 ?_)
    intro b34 w hb34 st
    refine vc_e (e_app (bytes := 16) st 1 0 rfl rfl rfl rfl rfl rfl underlying36 Tryd.info9 rfl rfl rfl rfl rfl (by simp) rfl rfl (by unfold maxLen; omega) (by omega) ?_)
    intro oa35 cap35 w st; dsimp only [setNth] at st
    refine vc_y rfl rfl (y_as rfl) ?_
    refine vc_end (vq_block (vq_then (vc_keep [(0, _), (1, _), (2, _), (8, _), (15, _), (16, _), (17, _)] ⟨rfl, rfl, rfl, rfl, rfl, rfl, rfl, trivial⟩ (vc_region ?_))))
    refine vc_y rfl rfl (y_add rfl rfl (by omega : _ = ((j + 1 : Nat) : Int)) (by omega) (by omega)) ?_
    refine vc_y rfl rfl (y_mv rfl) ?_
    refine vc_end ?_
    refine vq_again (j + 1, oa35, cap35)  ⟨rfl, rfl, rfl, rfl, rfl, rfl, rfl, trivial⟩ (by rw [htm]; exact st.drop (by repeat (first | exact sl0 | apply sl1 | apply sl2))) ?_ ?_
    ·
     dsimp only; omega
    ·
     dsimp only; omega
  ·
   intro hc18
   try simp only [dn] at hc18
   obtain rfl : j = ds.length := by omega
   rw [List.take_length] at st
   have hjl : (joinC (ds.map dcT)).length ≤ ds.length * 57 := by
    have h := joinC_len (ds.map dcT) 55 (fun z hz => by
      obtain ⟨q, hq, rfl⟩ := List.mem_map.1 hz
      have hqr : dcOk b q = true := List.all_eq_true.1 hR q hq
      have h1 : q.nm.length ≤ 32 := by unfold dcOk at hqr; simp only [Bool.and_eq_true] at hqr; exact isName_le hqr.1
      obtain ⟨i, hi⟩ := List.mem_iff_getElem?.1 hq
      have h2 := shw_le q.wd (hok.2 i q hi).1
      unfold dcT
      split <;> simp <;> omega)
    simpa using h
   refine vc_exit (vq_then_exit (vq_then_exit (vq_block_exit (vq_then (vc_keep [(0, _), (1, _), (2, _), (8, _)] ⟨rfl, rfl, rfl, rfl, trivial⟩ (vc_region ?_))))))
   iterate 4 refine vc_y rfl rfl (y_mv rfl) ?_
   refine vc_e (e_call [_, _] rfl rfl call49 rfl (by have h := joinC_any (ds.map dcT) oj cj _ _ (by rw [List.length_map]; exact st.res (i := 0) rfl) (by omega) (by rw [List.length_map]; omega); rw [List.length_map] at h; exact h) ?_)
   rintro _ w ⟨rfl, cw⟩
   replace st := st.call0 cw
   refine vc_e (e_bsn (l := [word, [32], joinC (ds.map dcT), [59]].map str) (E := 9) st [(0, _), (1, _), (2, _), (3, _)] rfl rfl rfl (fun w => by simp [Instr.buildSlice, run_underlying underlying36, sizeOf9, zeroValue9, Instr.fill, newRow, newObj, Sem.run, go_sem]) ?_)
   intro b42 w hb42 st
   refine vc_e (e_call [_, _, _] rfl rfl call20 rfl (line_any repeat_any bw _ _ d hd [word, [32], joinC (ds.map dcT), [59]] (by simp) (by simp; omega) b42 _ _ (st.wrGet (i := 2) rfl) (Nat.le_trans hn0 st.chg.size) (fun j x hx => cell_nth (st.res (i := 0) rfl) (strs_nth hx)) (fun hk => apart_nth st.nodup (i := 0) (j := 2) (by decide) rfl rfl _ (.head _) hk)) ?_)
   rintro _ w ⟨rfl, hp⟩
   obtain ⟨v9, st⟩ := st.wr (i := 2) rfl hp
   dsimp only [setNth] at st
   refine vc_end ?_
   refine vq_ret0 (.inr rfl) results19 ?_
   refine ⟨_, rfl, ?_⟩
   refine ⟨rfl, (st.wrDone (i := 2) rfl).eq ?_⟩
   unfold dcsT
   rw [if_neg (by omega)]
   simp

end
end Go.Proofs.YtnmhlpnapgojjaaDoor

namespace Go.Proofs.YtnmhlpnapgojjaaDoor
open Go.RowKit Sx LexS _root_.Go.Proofs.Tryd
set_option linter.unusedVariables false
set_option linter.unusedSimpArgs false
theorem txtSs_app : ∀ (a b : List Sm) (d : Nat), txtSs (a ++ b) d = txtSs a d ++ txtSs b d
 | [], b, d => rfl
 | s :: r, b, d => by simp only [List.cons_append, txtSs]; rw [txtSs_app r b d, List.append_assoc]
theorem txtSs_succ {ss : List Sm} {d j : Nat} {s : Sm} (h : ss[j]? = some s) : txtSs (ss.take (j + 1)) d = txtSs (ss.take j) d ++ txtS s d := by
 obtain ⟨hj, e⟩ := List.getElem?_eq_some_iff.1 h
 rw [List.take_succ_eq_append_getElem hj, txtSs_app, e]
 simp [txtSs]
theorem txtSs_split (ss : List Sm) (d j : Nat) : txtSs ss d = txtSs (ss.take j) d ++ txtSs (ss.drop j) d := by
 rw [← txtSs_app, List.take_append_drop]
/-- how a statement's text begins -/
def hdS (s : Sm) : List UInt8 :=
 if s.k = 1 then s.nm ++ [32, 61, 32] ++ txX s.e ++ [59, 10]
 else if s.k = 2 then s.nm ++ [32, 61, 32, 115, 119, 97, 112, 40] ++ s.other ++ [44, 32] ++ txX s.e ++ [41, 59, 10]
 else if s.k = 6 then [112, 114, 105, 110, 116, 32] ++ txX s.e ++ [59, 10]
 else if s.k = 7 then [115, 107, 105, 112, 59, 10]
 else if s.k = 5 then [108, 111, 99, 107, 32] ++ s.nm ++ [32, 123, 10]
 else (if s.k = 4 then [119, 104, 105, 108, 101, 32, 40] else [105, 102, 32, 40]) ++ txX s.e ++ [41, 32, 123, 10]
theorem txtS_flat {s : Sm} {d : Nat} (h : s.k = 1 ∨ s.k = 2 ∨ s.k = 6 ∨ s.k = 7) : txtS s d = mar d ++ hdS s := by
 cases s with
 | mk k nm other e body els a =>
  change k = 1 ∨ k = 2 ∨ k = 6 ∨ k = 7 at h
  unfold txtS hdS
  simp only [Sm.k, Sm.nm, Sm.other, Sm.e]
  rcases h with rfl | rfl | rfl | rfl <;> rfl
theorem txtS_lock {s : Sm} {d : Nat} (h : s.k = 5) : txtS s d = mar d ++ hdS s ++ txtSs s.body (d + 1) ++ mar d ++ [125, 10] := by
 cases s with
 | mk k nm other e body els a =>
  change k = 5 at h
  subst h
  unfold txtS hdS
  simp only [Sm.k, Sm.nm, Sm.other, Sm.e, Sm.body]
  rfl
theorem txtS_cond {s : Sm} {d : Nat} (h : s.k = 3 ∨ s.k = 4) : txtS s d = mar d ++ hdS s ++ txtSs s.body (d + 1) ++ (if 0 < s.els.length then mar d ++ [125, 32, 101, 108, 115, 101, 32, 123, 10] ++ txtSs s.els (d + 1) else []) ++ mar d ++ [125, 10] := by
 cases s with
 | mk k nm other e body els a =>
  change k = 3 ∨ k = 4 at h
  unfold txtS hdS
  simp only [Sm.k, Sm.nm, Sm.other, Sm.e, Sm.body, Sm.els]
  rcases h with rfl | rfl <;> rfl
def decJ (l : List Dc) : List UInt8 := if l.length = 0 then [] else [32] ++ joinC (l.map dcT)
theorem joinC_snoc : ∀ (l : List (List UInt8)) (x : List UInt8), l ≠ [] → joinC (l ++ [x]) = joinC l ++ [44, 32] ++ x
 | [], x, h => absurd rfl h
 | [y], x, _ => by simp [joinC]
 | y :: z :: r, x, _ => by
  have ih := joinC_snoc (z :: r) x (by simp)
  simp only [List.cons_append, joinC] at ih ⊢
  rw [ih]; simp
theorem decJ_succ {ds : List Dc} {j : Nat} {x : Dc} (h : ds[j]? = some x) : decJ (ds.take (j + 1)) = decJ (ds.take j) ++ (if 0 < j then [44] else []) ++ ([32] ++ x.nm) ++ (if x.wd = 0 then [] else [32, 61, 32] ++ shw x.wd) := by
 obtain ⟨hj, e⟩ := List.getElem?_eq_some_iff.1 h
 rw [List.take_succ_eq_append_getElem hj, e]
 unfold decJ
 rw [if_neg (by simp), List.map_append, List.map_singleton]
 rcases Nat.eq_zero_or_pos j with rfl | hj0
 ·
  simp [joinC, dcT]
 ·
  rw [if_neg (by rw [List.length_take]; omega), if_pos hj0, joinC_snoc _ _ (by
    intro h0
    have := congrArg List.length h0
    rw [List.length_map, List.length_take, List.length_nil] at this
    omega)]
  simp [dcT]
theorem dcsT_eq {word : List UInt8} {d : Nat} {l : List Dc} (h : 0 < l.length) : dcsT word d l = mar d ++ (word ++ decJ l ++ [59, 10]) := by
 unfold dcsT decJ
 rw [if_neg (by omega), if_neg (by omega)]
 simp
theorem txX_eq {e : List Ex} {x : Ex} (h : e[0]? = some x) : txX e = txtE x := by
 cases e with
 | nil => simp at h
 | cons y r => simp at h; subst h; rfl
theorem rightX_inv {b : Bool} {e : List Ex} (hb : b = true) (h : rightX b e = true) : ∃ x, e[0]? = some x ∧ e.length = 1 ∧ rightE x 0 = true := by
 subst hb
 by_cases h1 : e.length = 1
 ·
  obtain ⟨x, hx⟩ := get0 h1 (by omega)
  rw [rightX_t h1 hx] at h
  exact ⟨x, hx, h1, h⟩
 ·
  rw [rightX_n h1] at h; cases h
end Go.Proofs.YtnmhlpnapgojjaaDoor

namespace Go.Proofs.YtnmhlpnapgojjaaDoor
open Go.RowKit Sx LexS _root_.Go.Proofs.Tryd
set_option linter.unusedVariables false
set_option linter.unusedSimpArgs false
section
variable {n0 : Nat}

set_option maxHeartbeats 2000000 in
theorem rdecls_any (ds : List Dc) (b : Bool) (hR : ds.all (dcOk b) = true) (hok : OkD ds) (word : List UInt8) (hwd : word.length ≤ 100) (oa : Option Addr) (cap : Nat) (bw : Nat) (v : Value) (F : List UInt8) (w : World) (hD : DcRow w (· < n0) oa ds) (hW : Wr 5 n0 53 bw v F w) (hn0 : n0 ≤ w.heap.size) :
    Ret Tryd.prog 23 [.pointer (some ⟨bw, 0, none⟩), str word, .slice oa ds.length cap] w fun r w' => r = .tuple #[] ∧ WrP 5 n0 53 bw v (F ++ dcsT word 0 ds) w w' := by
 refine ret_of [_, _, _] func23 rfl ntmps23 rfl ?_
 have st := St.init w []
 clear st
 obtain ⟨w0, rfl⟩ : ∃ w0, w0 = w := ⟨_, rfl⟩
 have st := St.wrInit hW
 have hsame : ∀ {w1 : World}, Chg (bw :: v.ownBlock.toList) w0 w1 → Same (· < n0) w0 w1 := fun c => hW.same c
 have hn := hok.1
 refine vc_seq (vc_seq (vc_region ?_))
 refine vc_y rfl rfl (y_mv rfl) ?_
 refine vc_y rfl rfl (y_lensl rfl underlying22) ?_
 refine vc_y rfl rfl (y_eqi rfl rfl) ?_
 refine vc_end (vq_then (vc_keep [(0, _), (1, _), (2, _), (9, _)] ⟨rfl, rfl, rfl, rfl, trivial⟩ ?_))
 refine vc_ifs rfl ?_ ?_
 ·
  intro hc9
  try simp only [dn] at hc9
  refine vc_ret (vq_then_ret ?_)
  refine vq_ret0 (.inl rfl) results23 ?_
  refine ⟨_, rfl, ?_⟩
  refine ⟨rfl, (st.wrDone (i := 0) rfl).eq ?_⟩
  unfold dcsT
  rw [if_pos (by omega), List.append_nil]
 ·
  intro hc9
  try simp only [dn] at hc9
  refine vc_code_skip (vq_then (vc_keep [(0, _), (1, _), (2, _)] ⟨rfl, rfl, rfl, trivial⟩ (vc_seq (vc_region ?_))))
  iterate 2 refine vc_y rfl rfl (y_mv rfl) ?_
  refine vc_e (e_call [_, _] rfl rfl call24 rfl (rput_any bw _ _ _ _ (by exact st.wrGet (i := 0) rfl) (Nat.le_trans hn0 st.chg.size) (by omega)) ?_)
  rintro _ w ⟨rfl, hp⟩
  obtain ⟨v9, st⟩ := st.wr (i := 0) rfl hp
  dsimp only [setNth] at st
  refine vc_end (vq_then (vc_keep [(0, _), (2, _)] ⟨rfl, rfl, trivial⟩ (vc_seq (vc_seq (vc_region ?_)))))
  refine vc_y rfl rfl (y_as rfl) ?_
  refine vc_end (vq_then (vc_keep [(0, _), (2, _), (6, _)] ⟨rfl, rfl, rfl, trivial⟩ (vc_block ?_)))
  refine vc_loop (w0 := w0) (M := (bw :: v.ownBlock.toList)) (fun (x : Nat × Value) => [(0, .pointer (some ⟨bw, 0, none⟩)), (2, .slice oa ds.length cap), (6, .int .i64 (x.1 : Int))]) (fun x => [wrR (bw :: v.ownBlock.toList) w0.heap.size 5 n0 53 bw x.2 (F ++ word ++ decJ (ds.take x.1))]) (fun x _ => x.1 ≤ ds.length) (fun x => ds.length - x.1) (0, v9) ⟨rfl, rfl, rfl, trivial⟩ (by simpa [decJ] using st) (by simp) ?_
  clear st
  rintro ⟨j, v1⟩ w hj st
  dsimp only at *
  refine vc_seq (vc_seq (vc_region ?_))
  iterate 2 refine vc_y rfl rfl (y_mv rfl) ?_
  refine vc_y rfl rfl (y_lensl rfl underlying22) ?_
  refine vc_y rfl rfl (y_lss rfl rfl) ?_
  refine vc_end (vq_then (vc_keep [(0, _), (2, _), (6, _), (16, _)] ⟨rfl, rfl, rfl, rfl, trivial⟩ ?_))
  refine vc_ifs rfl ?_ ?_
  ·
   intro hc16
   try simp only [dn] at hc16
   obtain ⟨x, hx⟩ : ∃ x, ds[j]? = some x := ⟨_, List.getElem?_eq_getElem (by omega)⟩
   obtain ⟨gb, go, rfl, hgS, hgl, hg⟩ := DcRow.at hD (by omega)
   have hc := hg j x hx
   have hxo := hok.2 j x hx
   have hxr : dcOk b x = true := List.all_eq_true.1 hR x (List.mem_of_getElem? hx)
   have hxn : x.nm.length ≤ 32 := by unfold dcOk at hxr; simp only [Bool.and_eq_true] at hxr; exact isName_le hxr.1
   have hxs := shw_le x.wd hxo.1
   refine vc_code_skip (vq_then (vc_keep [(0, _), (2, _), (6, _)] ⟨rfl, rfl, rfl, trivial⟩ ?_))
   refine vc_cut (w0 := w0) (M := (bw :: v.ownBlock.toList)) (fun (_ : Value) => [(0, .pointer (some ⟨bw, 0, none⟩)), (2, .slice (some ⟨gb, go, none⟩) ds.length cap), (6, .int .i64 (j : Int))]) (fun v1 => [wrR (bw :: v.ownBlock.toList) w0.heap.size 5 n0 53 bw v1 (F ++ word ++ decJ (ds.take (j + 1)))]) (fun _ _ => True) ?_ ?_
   ·
    refine vc_block ?_
    refine vc_cut (w0 := w0) (M := (bw :: v.ownBlock.toList)) (fun (_ : Value) => [(0, .pointer (some ⟨bw, 0, none⟩)), (2, .slice (some ⟨gb, go, none⟩) ds.length cap), (6, .int .i64 (j : Int))]) (fun v1 => [wrR (bw :: v.ownBlock.toList) w0.heap.size 5 n0 53 bw v1 (F ++ word ++ decJ (ds.take j) ++ (if 0 < j then [44] else []))]) (fun _ _ => True) ?_ ?_
    ·
     refine vc_seq (vc_region ?_)
     refine vc_y rfl rfl (y_mv rfl) ?_
     refine vc_y rfl rfl (y_gtr rfl rfl) ?_
     refine vc_end (vq_then (vc_keep [(0, _), (2, _), (6, _), (20, _)] ⟨rfl, rfl, rfl, rfl, trivial⟩ ?_))
     refine vc_ifs rfl ?_ ?_
     ·
      intro hc20
      try simp only [dn] at hc20
      refine vc_region ?_
      refine vc_y rfl rfl (y_mv rfl) ?_
      refine vc_e (e_call [_, _] rfl rfl call24 rfl (rput_any bw _ _ _ _ (by exact st.wrGet (i := 0) rfl) (Nat.le_trans hn0 st.chg.size) (by simp only [List.length_append, List.length_cons, List.length_nil]; omega)) ?_)
      rintro _ w ⟨rfl, hp⟩
      obtain ⟨v9, st⟩ := st.wr (i := 0) rfl hp
      dsimp only [setNth] at st
      refine vc_end ?_
      refine vq_meet _ ⟨rfl, rfl, rfl, trivial⟩ (by first | (rw [if_pos (by omega)]; exact st) | (rw [if_neg (by omega), List.append_nil]; exact st)) ?_
      ·
       trivial
     ·
      intro hc20
      try simp only [dn] at hc20
      refine vc_code_skip ?_
      refine vq_meet _ ⟨rfl, rfl, rfl, trivial⟩ (by first | (rw [if_pos (by omega)]; exact st) | (rw [if_neg (by omega), List.append_nil]; exact st)) ?_
      ·
       trivial
    ·
     clear st
     rintro v2 w - st
     refine vc_seq (vc_region ?_)
     iterate 3 refine vc_y rfl rfl (y_mv rfl) ?_
     refine vc_y rfl rfl ((by exact y_ia (k := j) rfl rfl underlying22 sizeOf67 rfl (by omega))) ?_
     refine vc_y rfl rfl (y_fa0 rfl underlying67 rfl rfl sizeOf9 rfl) ?_
     refine vc_y rfl rfl ((by exact y_ldc rfl isAgg9 (st.chg.cell (hc 0 _ rfl) (hW.notin hgS)))) ?_
     refine vc_y rfl rfl (y_cat rfl rfl (by simp only [List.length_append, List.length_cons, List.length_nil]; omega)) ?_
     refine vc_e (e_call [_, _] rfl rfl call24 rfl (rput_any bw _ _ _ _ (by exact st.wrGet (i := 0) rfl) (Nat.le_trans hn0 st.chg.size) (by simp only [List.length_append, List.length_cons, List.length_nil]; omega)) ?_)
     rintro _ w ⟨rfl, hp⟩
     obtain ⟨v9, st⟩ := st.wr (i := 0) rfl hp
     dsimp only [setNth] at st
     refine vc_end (vq_then (vc_keep [(0, _), (2, _), (6, _)] ⟨rfl, rfl, rfl, trivial⟩ (vc_seq (vc_region ?_))))
     iterate 2 refine vc_y rfl rfl (y_mv rfl) ?_
     refine vc_y rfl rfl ((by exact y_ia (k := j) rfl rfl underlying22 sizeOf67 rfl (by omega))) ?_
     refine vc_y rfl rfl ((by exact y_fa (k := 1) rfl underlying67 rfl rfl sizeOf2 rfl)) ?_
     refine vc_y rfl rfl ((by exact y_ldc rfl isAgg2 (st.chg.cell (hc 1 _ rfl) (hW.notin hgS)))) ?_
     refine vc_y rfl rfl (y_nei rfl rfl) ?_
     refine vc_end (vq_then (vc_keep [(0, _), (2, _), (6, _), (36, _)] ⟨rfl, rfl, rfl, rfl, trivial⟩ ?_))
     refine vc_ifs rfl ?_ ?_
     ·
      intro hc36
      try simp only [dn] at hc36
      refine vc_region ?_
      iterate 3 refine vc_y rfl rfl (y_mv rfl) ?_
      refine vc_y rfl rfl ((by exact y_ia (k := j) rfl rfl underlying22 sizeOf67 rfl (by omega))) ?_
      refine vc_y rfl rfl ((by exact y_fa (k := 1) rfl underlying67 rfl rfl sizeOf2 rfl)) ?_
      refine vc_y rfl rfl ((by exact y_ldc rfl isAgg2 (st.chg.cell (hc 1 _ rfl) (hW.notin hgS)))) ?_
      refine vc_e (e_call [_] rfl rfl call60 rfl (rprint_any _ _ hxo.1) ?_)
      rintro _ w ⟨rfl, cw⟩
      replace st := st.call0 cw
      refine vc_y rfl rfl (y_cat rfl rfl (by simp only [List.length_append, List.length_cons, List.length_nil]; omega)) ?_
      refine vc_e (e_call [_, _] rfl rfl call24 rfl (rput_any bw _ _ _ _ (by exact st.wrGet (i := 0) rfl) (Nat.le_trans hn0 st.chg.size) (by simp only [List.length_append, List.length_cons, List.length_nil]; omega)) ?_)
      rintro _ w ⟨rfl, hp⟩
      obtain ⟨v9, st⟩ := st.wr (i := 0) rfl hp
      dsimp only [setNth] at st
      refine vc_end (vq_block ?_)
      refine vq_meet _ ⟨rfl, rfl, rfl, trivial⟩ (by rw [decJ_succ hx]; first | (rw [if_neg (by omega : ¬ x.wd = 0)]; simpa only [List.append_assoc] using st) | (rw [if_pos (by omega : x.wd = 0), List.append_nil]; simpa only [List.append_assoc] using st)) ?_
      ·
       trivial
     ·
      intro hc36
      try simp only [dn] at hc36
      refine vc_code_skip (vq_block ?_)
      refine vq_meet _ ⟨rfl, rfl, rfl, trivial⟩ (by rw [decJ_succ hx]; first | (rw [if_neg (by omega : ¬ x.wd = 0)]; simpa only [List.append_assoc] using st) | (rw [if_pos (by omega : x.wd = 0), List.append_nil]; simpa only [List.append_assoc] using st)) ?_
      ·
       trivial
   ·
    clear st
    rintro v2 w - st
    refine vc_region ?_
    refine vc_y rfl rfl (y_mv rfl) ?_
    refine vc_y rfl rfl (y_add rfl rfl (by omega : _ = ((j + 1 : Nat) : Int)) (by omega) (by omega)) ?_
    refine vc_y rfl rfl (y_as rfl) ?_
    refine vc_end ?_
    refine vq_again (j + 1, v2)  ⟨rfl, rfl, rfl, trivial⟩ st ?_ ?_
    ·
     dsimp only; omega
    ·
     dsimp only; omega
  ·
   intro hc16
   try simp only [dn] at hc16
   obtain rfl : j = ds.length := by omega
   rw [List.take_length] at st
   refine vc_exit (vq_then_exit (vq_then_exit (vq_block_exit (vq_then (vc_keep [(0, _)] ⟨rfl, trivial⟩ (vc_region ?_))))))
   refine vc_y rfl rfl (y_mv rfl) ?_
   refine vc_e (e_call [_, _] rfl rfl call24 rfl (rput_any bw _ _ _ _ (by exact st.wrGet (i := 0) rfl) (Nat.le_trans hn0 st.chg.size) (by simp only [List.length_append, List.length_cons, List.length_nil]; omega)) ?_)
   rintro _ w ⟨rfl, hp⟩
   obtain ⟨v9, st⟩ := st.wr (i := 0) rfl hp
   dsimp only [setNth] at st
   refine vc_end ?_
   refine vq_ret0 (.inr rfl) results23 ?_
   refine ⟨_, rfl, ?_⟩
   refine ⟨rfl, (st.wrDone (i := 0) rfl).eq ?_⟩
   rw [dcsT_eq (by omega)]
   simp [mar]

end
end Go.Proofs.YtnmhlpnapgojjaaDoor

namespace Go.Proofs.YtnmhlpnapgojjaaDoor
open Go.RowKit Sx LexS _root_.Go.Proofs.Tryd
set_option linter.unusedVariables false
set_option linter.unusedSimpArgs false
section
variable {n0 : Nat}

set_option maxHeartbeats 2000000 in
theorem rstmtT_any (s : Sm) (d : Nat) (hd : d ≤ 64) (hR : rightS s d = true) (hok : OkS s) (oe ob ol : Option Addr) (ce cb cl : Nat) (bw : Nat) (v : Value) (F : List UInt8) (w : World) (hse : ExRow w (· < n0) oe s.e) (hsb : SmRow w (· < n0) ob s.body) (hsl : SmRow w (· < n0) ol s.els)
    (hW : Wr 5 n0 53 bw v F w) (hn0 : n0 ≤ w.heap.size)
  (hrec : ∀ (l : List Sm), (l = s.body ∨ l = s.els) → ∀ (bw : Nat) (v : Value) (F : List UInt8) (oa : Option Addr) (cap : Nat) (w : World), SmRow w (· < n0) oa l → Wr 5 n0 53 bw v F w → n0 ≤ w.heap.size → d < 64 →
    Ret Tryd.prog 25 [.pointer (some ⟨bw, 0, none⟩), .slice oa l.length cap, .int .i64 ((d + 1 : Nat) : Int)] w fun r w' => r = .tuple #[] ∧ WrP 5 n0 53 bw v (F ++ txtSs l (d + 1)) w w') :
  Ret Tryd.prog 61 [.pointer (some ⟨bw, 0, none⟩), .agg (smL s oe ob ol ce cb cl).toArray, .int .i64 (d : Int)] w fun r w' => r = .tuple #[] ∧ WrP 5 n0 53 bw v (F ++ txtS s d) w w' := by
 refine ret_of [_, _, _] func61 rfl ntmps61 rfl ?_
 have st := St.init w []
 clear st
 obtain ⟨w0, rfl⟩ : ∃ w0, w0 = w := ⟨_, rfl⟩
 have st := St.wrInit hW
 have hsame : ∀ {w1 : World}, Chg (bw :: v.ownBlock.toList) w0 w1 → Same (· < n0) w0 w1 := fun c => hW.same c
 obtain ⟨⟨r1, r1b⟩, r2, r3, r4, r5, r6, r7, r8, r9⟩ := rightS_iff.1 hR
 refine vc_seq (vc_region ?_)
 refine vc_e (e_bx (l := [_, _, _, _, _, _, _]) st rfl rfl rfl rfl ?_)
 intro b4 w hb4 st
 refine vc_end (vq_then (vc_keep [(0, _), (2, _), (4, _)] ⟨rfl, rfl, rfl, trivial⟩ (vc_seq (vc_region ?_))))
 iterate 2 refine vc_y rfl rfl (y_mv rfl) ?_
 refine vc_e (e_call [_, _] rfl rfl call91 rfl (rmargin_any bw _ _ d _ (by exact st.wrGet (i := 1) rfl) (Nat.le_trans hn0 st.chg.size) (by omega)) ?_)
 rintro _ w ⟨rfl, hp⟩
 obtain ⟨v9, st⟩ := st.wr (i := 1) rfl hp
 dsimp only [setNth] at st
 refine vc_end (vq_then (vc_keep [(0, _), (2, _), (4, _)] ⟨rfl, rfl, rfl, trivial⟩ ?_))
 refine vc_cut (w0 := w0) (M := (bw :: v.ownBlock.toList)) (fun (_ : Value) => [(0, .pointer (some ⟨bw, 0, none⟩)), (2, .int .i64 (d : Int)), (4, .pointer (some ⟨b4, 0, none⟩))]) (fun v1 => [.blk b4 (.cells (smL s oe ob ol ce cb cl).toArray 70 (0, 0)), wrR (bw :: v.ownBlock.toList) w0.heap.size 5 n0 53 bw v1 (F ++ mar d ++ hdS s)]) (fun _ _ => True) ?_ ?_
 ·
  refine vc_seq (vc_region ?_)
  refine vc_y rfl rfl (y_fa0 rfl underlying70 rfl rfl sizeOf68 rfl) ?_
  refine vc_y rfl rfl ((by exact y_ld st 0 rfl isAgg68 rfl rfl)) ?_
  refine vc_end (vq_then (vc_keep [(0, _), (2, _), (4, _), (10, _)] ⟨rfl, rfl, rfl, rfl, trivial⟩ (vc_block (vc_seq (vc_region ?_)))))
  refine vc_y rfl rfl (y_eqi rfl rfl) ?_
  refine vc_y rfl rfl (y_as rfl) ?_
  refine vc_end (vq_then (vc_keep [(0, _), (2, _), (4, _), (10, _), (11, _)] ⟨rfl, rfl, rfl, rfl, rfl, trivial⟩ ?_))
  refine vc_ifs rfl ?_ ?_
  ·
   intro hc11
   try simp only [dn] at hc11
   have hnm : s.nm.length ≤ 32 := by
    have hN : hasN s.k = true := by unfold hasN; simp only [decide_eq_true_eq]; omega
    rw [hN] at r2
    exact isName_le (by simpa [nmOk] using r2)
   obtain ⟨x, hx, hlen, hRx⟩ := rightX_inv (by unfold hasE; simp only [decide_eq_true_eq]; omega) r4
   obtain ⟨eb, eo, rfl, heS, hel, heg⟩ := ExRow.at hse (by omega)
   obtain ⟨o0, c0, hV0, hr0, hc0⟩ := heg 0 x hx
   have hxt := txX_eq hx
   have hkx := hok.e.2 0 x hx
   refine vc_seq (vc_region ?_)
   refine vc_y rfl rfl (y_mv rfl) ?_
   refine vc_y rfl rfl ((by exact y_faz (k := 1) rfl underlying70 rfl rfl sizeOf9 rfl)) ?_
   refine vc_y rfl rfl ((by exact y_ld st 0 rfl isAgg9 rfl rfl)) ?_
   refine vc_y rfl rfl (y_cat rfl rfl (by simp only [List.length_append, List.length_cons, List.length_nil]; omega)) ?_
   refine vc_e (e_call [_, _] rfl rfl call24 rfl (rput_any bw _ _ _ _ (by exact st.wrGet (i := 1) rfl) (Nat.le_trans hn0 st.chg.size) (by simp only [List.length_append, List.length_cons, List.length_nil]; omega)) ?_)
   rintro _ w ⟨rfl, hp⟩
   obtain ⟨v9, st⟩ := st.wr (i := 1) rfl hp
   dsimp only [setNth] at st
   refine vc_end (vq_then (vc_keep [(0, _), (2, _), (4, _)] ⟨rfl, rfl, rfl, trivial⟩ (vc_seq (vc_region ?_))))
   refine vc_y rfl rfl (y_mv rfl) ?_
   refine vc_y rfl rfl ((by exact y_faz (k := 3) rfl underlying70 rfl rfl sizeOf61 rfl)) ?_
   refine vc_y rfl rfl ((by exact y_ld st 0 rfl isAgg61 rfl rfl)) ?_
   refine vc_y rfl rfl ((by exact y_ia (k := 0) rfl rfl underlying61 sizeOf63 rfl (by omega))) ?_
   refine vc_y rfl rfl ((by exact y_ldca (exL x o0 c0) rfl isAgg63 sizeOf63 rfl (fun i v hi => st.chg.cell (hc0 i v hi) (hW.notin heS)))) ?_
   refine vc_e (e_call [_, _] rfl rfl call92 rfl (rtext_any _ x rfl 0 hRx hkx bw _ _ _ _ (hV0.kept (hsame st.chg)) (by exact st.wrGet (i := 1) rfl) (Nat.le_trans hn0 st.chg.size)) ?_)
   rintro _ w ⟨rfl, hp⟩
   obtain ⟨v9, st⟩ := st.wr (i := 1) rfl hp
   dsimp only [setNth] at st
   refine vc_end (vq_then (vc_keep [(0, _), (2, _), (4, _)] ⟨rfl, rfl, rfl, trivial⟩ (vc_region ?_)))
   refine vc_y rfl rfl (y_mv rfl) ?_
   refine vc_e (e_call [_, _] rfl rfl call24 rfl (rput_any bw _ _ _ _ (by exact st.wrGet (i := 1) rfl) (Nat.le_trans hn0 st.chg.size) (by simp only [List.length_append, List.length_cons, List.length_nil]; omega)) ?_)
   rintro _ w ⟨rfl, hp⟩
   obtain ⟨v9, st⟩ := st.wr (i := 1) rfl hp
   dsimp only [setNth] at st
   refine vc_end (vq_block ?_)
   refine vq_meet v9 ⟨rfl, rfl, rfl, trivial⟩ (by unfold hdS; first | (rw [if_pos (by assumption), hxt]; simpa only [List.append_assoc] using st) | (rw [if_neg (by assumption), if_pos (by assumption), hxt]; simpa only [List.append_assoc] using st) | (rw [if_neg (by assumption), if_neg (by assumption), if_pos (by assumption), hxt]; simpa only [List.append_assoc] using st) | (rw [if_neg (by assumption), if_neg (by assumption), if_neg (by assumption), if_pos (by assumption)]; simpa only [List.append_assoc] using st) | (rw [if_neg (by assumption), if_neg (by assumption), if_neg (by assumption), if_neg (by assumption), if_pos (by assumption)]; simpa only [List.append_assoc] using st) | (rw [if_neg (by assumption), if_neg (by assumption), if_neg (by assumption), if_neg (by assumption), if_neg (by assumption), hxt]; simpa only [List.append_assoc] using st) | (exfalso; omega)) ?_
   ·
    trivial
  ·
   intro hc11
   try simp only [dn] at hc11
   refine vc_seq (vc_region ?_)
   refine vc_y rfl rfl (y_eqi rfl rfl) ?_
   refine vc_y rfl rfl (y_as rfl) ?_
   refine vc_end (vq_then (vc_keep [(0, _), (2, _), (4, _), (10, _), (26, _)] ⟨rfl, rfl, rfl, rfl, rfl, trivial⟩ ?_))
   refine vc_ifs rfl ?_ ?_
   ·
    intro hc26
    try simp only [dn] at hc26
    have hnm : s.nm.length ≤ 32 := by
     have hN : hasN s.k = true := by unfold hasN; simp only [decide_eq_true_eq]; omega
     rw [hN] at r2
     exact isName_le (by simpa [nmOk] using r2)
    have hot : s.other.length ≤ 32 := by
     rw [show decide (s.k = 2) = true by simp only [decide_eq_true_eq]; omega] at r3
     exact isName_le (by simpa [nmOk] using r3)
    obtain ⟨x, hx, hlen, hRx⟩ := rightX_inv (by unfold hasE; simp only [decide_eq_true_eq]; omega) r4
    obtain ⟨eb, eo, rfl, heS, hel, heg⟩ := ExRow.at hse (by omega)
    obtain ⟨o0, c0, hV0, hr0, hc0⟩ := heg 0 x hx
    have hxt := txX_eq hx
    have hkx := hok.e.2 0 x hx
    refine vc_seq (vc_region ?_)
    refine vc_y rfl rfl (y_mv rfl) ?_
    refine vc_y rfl rfl ((by exact y_faz (k := 1) rfl underlying70 rfl rfl sizeOf9 rfl)) ?_
    refine vc_y rfl rfl ((by exact y_ld st 0 rfl isAgg9 rfl rfl)) ?_
    refine vc_y rfl rfl (y_cat rfl rfl (by simp only [List.length_append, List.length_cons, List.length_nil]; omega)) ?_
    refine vc_y rfl rfl ((by exact y_faz (k := 2) rfl underlying70 rfl rfl sizeOf9 rfl)) ?_
    refine vc_y rfl rfl ((by exact y_ld st 0 rfl isAgg9 rfl rfl)) ?_
    iterate 2 refine vc_y rfl rfl (y_cat rfl rfl (by simp only [List.length_append, List.length_cons, List.length_nil]; omega)) ?_
    refine vc_e (e_call [_, _] rfl rfl call24 rfl (rput_any bw _ _ _ _ (by exact st.wrGet (i := 1) rfl) (Nat.le_trans hn0 st.chg.size) (by simp only [List.length_append, List.length_cons, List.length_nil]; omega)) ?_)
    rintro _ w ⟨rfl, hp⟩
    obtain ⟨v9, st⟩ := st.wr (i := 1) rfl hp
    dsimp only [setNth] at st
    refine vc_end (vq_then (vc_keep [(0, _), (2, _), (4, _)] ⟨rfl, rfl, rfl, trivial⟩ (vc_seq (vc_region ?_))))
    refine vc_y rfl rfl (y_mv rfl) ?_
    refine vc_y rfl rfl ((by exact y_faz (k := 3) rfl underlying70 rfl rfl sizeOf61 rfl)) ?_
    refine vc_y rfl rfl ((by exact y_ld st 0 rfl isAgg61 rfl rfl)) ?_
    refine vc_y rfl rfl ((by exact y_ia (k := 0) rfl rfl underlying61 sizeOf63 rfl (by omega))) ?_
    refine vc_y rfl rfl ((by exact y_ldca (exL x o0 c0) rfl isAgg63 sizeOf63 rfl (fun i v hi => st.chg.cell (hc0 i v hi) (hW.notin heS)))) ?_
    refine vc_e (e_call [_, _] rfl rfl call92 rfl (rtext_any _ x rfl 0 hRx hkx bw _ _ _ _ (hV0.kept (hsame st.chg)) (by exact st.wrGet (i := 1) rfl) (Nat.le_trans hn0 st.chg.size)) ?_)
    rintro _ w ⟨rfl, hp⟩
    obtain ⟨v9, st⟩ := st.wr (i := 1) rfl hp
    dsimp only [setNth] at st
    refine vc_end (vq_then (vc_keep [(0, _), (2, _), (4, _)] ⟨rfl, rfl, rfl, trivial⟩ (vc_region ?_)))
    refine vc_y rfl rfl (y_mv rfl) ?_
    refine vc_e (e_call [_, _] rfl rfl call24 rfl (rput_any bw _ _ _ _ (by exact st.wrGet (i := 1) rfl) (Nat.le_trans hn0 st.chg.size) (by simp only [List.length_append, List.length_cons, List.length_nil]; omega)) ?_)
    rintro _ w ⟨rfl, hp⟩
    obtain ⟨v9, st⟩ := st.wr (i := 1) rfl hp
    dsimp only [setNth] at st
    refine vc_end (vq_block ?_)
    refine vq_meet v9 ⟨rfl, rfl, rfl, trivial⟩ (by unfold hdS; first | (rw [if_pos (by assumption), hxt]; simpa only [List.append_assoc] using st) | (rw [if_neg (by assumption), if_pos (by assumption), hxt]; simpa only [List.append_assoc] using st) | (rw [if_neg (by assumption), if_neg (by assumption), if_pos (by assumption), hxt]; simpa only [List.append_assoc] using st) | (rw [if_neg (by assumption), if_neg (by assumption), if_neg (by assumption), if_pos (by assumption)]; simpa only [List.append_assoc] using st) | (rw [if_neg (by assumption), if_neg (by assumption), if_neg (by assumption), if_neg (by assumption), if_pos (by assumption)]; simpa only [List.append_assoc] using st) | (rw [if_neg (by assumption), if_neg (by assumption), if_neg (by assumption), if_neg (by assumption), if_neg (by assumption), hxt]; simpa only [List.append_assoc] using st) | (exfalso; omega)) ?_
    ·
     trivial
   ·
    intro hc26
    try simp only [dn] at hc26
    refine vc_seq (vc_region ?_)
    refine vc_y rfl rfl (y_eqi rfl rfl) ?_
    refine vc_y rfl rfl (y_as rfl) ?_
    refine vc_end (vq_then (vc_keep [(0, _), (2, _), (4, _), (10, _), (45, _)] ⟨rfl, rfl, rfl, rfl, rfl, trivial⟩ ?_))
    refine vc_ifs rfl ?_ ?_
    ·
     intro hc45
     try simp only [dn] at hc45
     obtain ⟨x, hx, hlen, hRx⟩ := rightX_inv (by unfold hasE; simp only [decide_eq_true_eq]; omega) r4
     obtain ⟨eb, eo, rfl, heS, hel, heg⟩ := ExRow.at hse (by omega)
     obtain ⟨o0, c0, hV0, hr0, hc0⟩ := heg 0 x hx
     have hxt := txX_eq hx
     have hkx := hok.e.2 0 x hx
     refine vc_seq (vc_region ?_)
     refine vc_y rfl rfl (y_mv rfl) ?_
     refine vc_e (e_call [_, _] rfl rfl call24 rfl (rput_any bw _ _ _ _ (by exact st.wrGet (i := 1) rfl) (Nat.le_trans hn0 st.chg.size) (by simp only [List.length_append, List.length_cons, List.length_nil]; omega)) ?_)
     rintro _ w ⟨rfl, hp⟩
     obtain ⟨v9, st⟩ := st.wr (i := 1) rfl hp
     dsimp only [setNth] at st
     refine vc_end (vq_then (vc_keep [(0, _), (2, _), (4, _)] ⟨rfl, rfl, rfl, trivial⟩ (vc_seq (vc_region ?_))))
     refine vc_y rfl rfl (y_mv rfl) ?_
     refine vc_y rfl rfl ((by exact y_faz (k := 3) rfl underlying70 rfl rfl sizeOf61 rfl)) ?_
     refine vc_y rfl rfl ((by exact y_ld st 0 rfl isAgg61 rfl rfl)) ?_
     refine vc_y rfl rfl ((by exact y_ia (k := 0) rfl rfl underlying61 sizeOf63 rfl (by omega))) ?_
     refine vc_y rfl rfl ((by exact y_ldca (exL x o0 c0) rfl isAgg63 sizeOf63 rfl (fun i v hi => st.chg.cell (hc0 i v hi) (hW.notin heS)))) ?_
     refine vc_e (e_call [_, _] rfl rfl call92 rfl (rtext_any _ x rfl 0 hRx hkx bw _ _ _ _ (hV0.kept (hsame st.chg)) (by exact st.wrGet (i := 1) rfl) (Nat.le_trans hn0 st.chg.size)) ?_)
     rintro _ w ⟨rfl, hp⟩
     obtain ⟨v9, st⟩ := st.wr (i := 1) rfl hp
     dsimp only [setNth] at st
     refine vc_end (vq_then (vc_keep [(0, _), (2, _), (4, _)] ⟨rfl, rfl, rfl, trivial⟩ (vc_region ?_)))
     refine vc_y rfl rfl (y_mv rfl) ?_
     refine vc_e (e_call [_, _] rfl rfl call24 rfl (rput_any bw _ _ _ _ (by exact st.wrGet (i := 1) rfl) (Nat.le_trans hn0 st.chg.size) (by simp only [List.length_append, List.length_cons, List.length_nil]; omega)) ?_)
     rintro _ w ⟨rfl, hp⟩
     obtain ⟨v9, st⟩ := st.wr (i := 1) rfl hp
     dsimp only [setNth] at st
     refine vc_end (vq_block ?_)
     refine vq_meet v9 ⟨rfl, rfl, rfl, trivial⟩ (by unfold hdS; first | (rw [if_pos (by assumption), hxt]; simpa only [List.append_assoc] using st) | (rw [if_neg (by assumption), if_pos (by assumption), hxt]; simpa only [List.append_assoc] using st) | (rw [if_neg (by assumption), if_neg (by assumption), if_pos (by assumption), hxt]; simpa only [List.append_assoc] using st) | (rw [if_neg (by assumption), if_neg (by assumption), if_neg (by assumption), if_pos (by assumption)]; simpa only [List.append_assoc] using st) | (rw [if_neg (by assumption), if_neg (by assumption), if_neg (by assumption), if_neg (by assumption), if_pos (by assumption)]; simpa only [List.append_assoc] using st) | (rw [if_neg (by assumption), if_neg (by assumption), if_neg (by assumption), if_neg (by assumption), if_neg (by assumption), hxt]; simpa only [List.append_assoc] using st) | (exfalso; omega)) ?_
     ·
      trivial
    ·
     intro hc45
     try simp only [dn] at hc45
     refine vc_seq (vc_region ?_)
     refine vc_y rfl rfl (y_eqi rfl rfl) ?_
     refine vc_y rfl rfl (y_as rfl) ?_
     refine vc_end (vq_then (vc_keep [(0, _), (2, _), (4, _), (10, _), (57, _)] ⟨rfl, rfl, rfl, rfl, rfl, trivial⟩ ?_))
     refine vc_ifs rfl ?_ ?_
     ·
      intro hc57
      try simp only [dn] at hc57
      refine vc_region ?_
      refine vc_y rfl rfl (y_mv rfl) ?_
      refine vc_e (e_call [_, _] rfl rfl call24 rfl (rput_any bw _ _ _ _ (by exact st.wrGet (i := 1) rfl) (Nat.le_trans hn0 st.chg.size) (by simp only [List.length_append, List.length_cons, List.length_nil]; omega)) ?_)
      rintro _ w ⟨rfl, hp⟩
      obtain ⟨v9, st⟩ := st.wr (i := 1) rfl hp
      dsimp only [setNth] at st
      refine vc_end (vq_block ?_)
      refine vq_meet v9 ⟨rfl, rfl, rfl, trivial⟩ (by unfold hdS; first | (rw [if_pos (by assumption), hxt]; simpa only [List.append_assoc] using st) | (rw [if_neg (by assumption), if_pos (by assumption), hxt]; simpa only [List.append_assoc] using st) | (rw [if_neg (by assumption), if_neg (by assumption), if_pos (by assumption), hxt]; simpa only [List.append_assoc] using st) | (rw [if_neg (by assumption), if_neg (by assumption), if_neg (by assumption), if_pos (by assumption)]; simpa only [List.append_assoc] using st) | (rw [if_neg (by assumption), if_neg (by assumption), if_neg (by assumption), if_neg (by assumption), if_pos (by assumption)]; simpa only [List.append_assoc] using st) | (rw [if_neg (by assumption), if_neg (by assumption), if_neg (by assumption), if_neg (by assumption), if_neg (by assumption), hxt]; simpa only [List.append_assoc] using st) | (exfalso; omega)) ?_
      ·
       trivial
     ·
      intro hc57
      try simp only [dn] at hc57
      refine vc_seq (vc_region ?_)
      refine vc_y rfl rfl (y_eqi rfl rfl) ?_
      refine vc_y rfl rfl (y_as rfl) ?_
      refine vc_end (vq_then (vc_keep [(0, _), (2, _), (4, _), (10, _), (61, _)] ⟨rfl, rfl, rfl, rfl, rfl, trivial⟩ ?_))
      refine vc_ifs rfl ?_ ?_
      ·
       intro hc61
       try simp only [dn] at hc61
       have hnm : s.nm.length ≤ 32 := by
        have hN : hasN s.k = true := by unfold hasN; simp only [decide_eq_true_eq]; omega
        rw [hN] at r2
        exact isName_le (by simpa [nmOk] using r2)
       refine vc_region ?_
       refine vc_y rfl rfl (y_mv rfl) ?_
       refine vc_y rfl rfl ((by exact y_faz (k := 1) rfl underlying70 rfl rfl sizeOf9 rfl)) ?_
       refine vc_y rfl rfl ((by exact y_ld st 0 rfl isAgg9 rfl rfl)) ?_
       iterate 2 refine vc_y rfl rfl (y_cat rfl rfl (by simp only [List.length_append, List.length_cons, List.length_nil]; omega)) ?_
       refine vc_e (e_call [_, _] rfl rfl call24 rfl (rput_any bw _ _ _ _ (by exact st.wrGet (i := 1) rfl) (Nat.le_trans hn0 st.chg.size) (by simp only [List.length_append, List.length_cons, List.length_nil]; omega)) ?_)
       rintro _ w ⟨rfl, hp⟩
       obtain ⟨v9, st⟩ := st.wr (i := 1) rfl hp
       dsimp only [setNth] at st
       refine vc_end (vq_block ?_)
       refine vq_meet v9 ⟨rfl, rfl, rfl, trivial⟩ (by unfold hdS; first | (rw [if_pos (by assumption), hxt]; simpa only [List.append_assoc] using st) | (rw [if_neg (by assumption), if_pos (by assumption), hxt]; simpa only [List.append_assoc] using st) | (rw [if_neg (by assumption), if_neg (by assumption), if_pos (by assumption), hxt]; simpa only [List.append_assoc] using st) | (rw [if_neg (by assumption), if_neg (by assumption), if_neg (by assumption), if_pos (by assumption)]; simpa only [List.append_assoc] using st) | (rw [if_neg (by assumption), if_neg (by assumption), if_neg (by assumption), if_neg (by assumption), if_pos (by assumption)]; simpa only [List.append_assoc] using st) | (rw [if_neg (by assumption), if_neg (by assumption), if_neg (by assumption), if_neg (by assumption), if_neg (by assumption), hxt]; simpa only [List.append_assoc] using st) | (exfalso; omega)) ?_
       ·
        trivial
      ·
       intro hc61
       try simp only [dn] at hc61
       refine vc_seq (vc_seq (vc_region ?_))
       refine vc_y rfl rfl (y_eqi rfl rfl) ?_
       refine vc_y rfl rfl (y_as rfl) ?_
       refine vc_end (vq_then (vc_keep [(0, _), (2, _), (4, _), (10, _), (69, _)] ⟨rfl, rfl, rfl, rfl, rfl, trivial⟩ ?_))
       refine vc_ifs rfl ?_ ?_
       ·
        intro hc69
        try simp only [dn] at hc69
        obtain ⟨x, hx, hlen, hRx⟩ := rightX_inv (by unfold hasE; simp only [decide_eq_true_eq]; omega) r4
        obtain ⟨eb, eo, rfl, heS, hel, heg⟩ := ExRow.at hse (by omega)
        obtain ⟨o0, c0, hV0, hr0, hc0⟩ := heg 0 x hx
        have hxt := txX_eq hx
        have hkx := hok.e.2 0 x hx
        refine vc_code_skip (vq_then (vc_keep [(0, _), (2, _), (4, _), (69, _)] ⟨rfl, rfl, rfl, rfl, trivial⟩ ?_))
        refine vc_ift rfl ?_
        refine vc_cut (w0 := w0) (M := (bw :: v.ownBlock.toList)) (fun (_ : Value) => [(0, .pointer (some ⟨bw, 0, none⟩)), (2, .int .i64 (d : Int)), (4, .pointer (some ⟨b4, 0, none⟩))]) (fun v1 => [.blk b4 (.cells (smL s (some ⟨eb, eo, none⟩) ob ol ce cb cl).toArray 70 (0, 0)), wrR (bw :: v.ownBlock.toList) w0.heap.size 5 n0 53 bw v1 (F ++ mar d ++ (if s.k = 4 then [119, 104, 105, 108, 101, 32, 40] else [105, 102, 32, 40]))]) (fun _ _ => True) ?_ ?_
        ·
         refine vc_seq (vc_region ?_)
         refine vc_y rfl rfl (y_fa0 rfl underlying70 rfl rfl sizeOf68 rfl) ?_
         refine vc_y rfl rfl ((by exact y_ld st 0 rfl isAgg68 rfl rfl)) ?_
         refine vc_y rfl rfl (y_eqi rfl rfl) ?_
         refine vc_end (vq_then (vc_keep [(0, _), (2, _), (4, _), (74, _)] ⟨rfl, rfl, rfl, rfl, trivial⟩ ?_))
         refine vc_ifs rfl ?_ ?_
         ·
          intro hc74
          try simp only [dn] at hc74
          refine vc_region ?_
          refine vc_y rfl rfl (y_mv rfl) ?_
          refine vc_e (e_call [_, _] rfl rfl call24 rfl (rput_any bw _ _ _ _ (by exact st.wrGet (i := 1) rfl) (Nat.le_trans hn0 st.chg.size) (by simp only [List.length_append, List.length_cons, List.length_nil]; omega)) ?_)
          rintro _ w ⟨rfl, hp⟩
          obtain ⟨v9, st⟩ := st.wr (i := 1) rfl hp
          dsimp only [setNth] at st
          refine vc_end ?_
          refine vq_meet v9 ⟨rfl, rfl, rfl, trivial⟩ (by first | (rw [if_pos (by omega)]; exact st) | (rw [if_neg (by omega)]; exact st)) ?_
          ·
           trivial
         ·
          intro hc74
          try simp only [dn] at hc74
          refine vc_region ?_
          refine vc_y rfl rfl (y_mv rfl) ?_
          refine vc_e (e_call [_, _] rfl rfl call24 rfl (rput_any bw _ _ _ _ (by exact st.wrGet (i := 1) rfl) (Nat.le_trans hn0 st.chg.size) (by simp only [List.length_append, List.length_cons, List.length_nil]; omega)) ?_)
          rintro _ w ⟨rfl, hp⟩
          obtain ⟨v9, st⟩ := st.wr (i := 1) rfl hp
          dsimp only [setNth] at st
          refine vc_end ?_
          refine vq_meet v9 ⟨rfl, rfl, rfl, trivial⟩ (by first | (rw [if_pos (by omega)]; exact st) | (rw [if_neg (by omega)]; exact st)) ?_
          ·
           trivial
        ·
         clear st
         rintro v2 w - st
         refine vc_seq (vc_region ?_)
         refine vc_y rfl rfl (y_mv rfl) ?_
         refine vc_y rfl rfl ((by exact y_faz (k := 3) rfl underlying70 rfl rfl sizeOf61 rfl)) ?_
         refine vc_y rfl rfl ((by exact y_ld st 0 rfl isAgg61 rfl rfl)) ?_
         refine vc_y rfl rfl ((by exact y_ia (k := 0) rfl rfl underlying61 sizeOf63 rfl (by omega))) ?_
         refine vc_y rfl rfl ((by exact y_ldca (exL x o0 c0) rfl isAgg63 sizeOf63 rfl (fun i v hi => st.chg.cell (hc0 i v hi) (hW.notin heS)))) ?_
         refine vc_e (e_call [_, _] rfl rfl call92 rfl (rtext_any _ x rfl 0 hRx hkx bw _ _ _ _ (hV0.kept (hsame st.chg)) (by exact st.wrGet (i := 1) rfl) (Nat.le_trans hn0 st.chg.size)) ?_)
         rintro _ w ⟨rfl, hp⟩
         obtain ⟨v9, st⟩ := st.wr (i := 1) rfl hp
         dsimp only [setNth] at st
         refine vc_end (vq_then (vc_keep [(0, _), (2, _), (4, _)] ⟨rfl, rfl, rfl, trivial⟩ (vc_region ?_)))
         refine vc_y rfl rfl (y_mv rfl) ?_
         refine vc_e (e_call [_, _] rfl rfl call24 rfl (rput_any bw _ _ _ _ (by exact st.wrGet (i := 1) rfl) (Nat.le_trans hn0 st.chg.size) (by simp only [List.length_append, List.length_cons, List.length_nil]; omega)) ?_)
         rintro _ w ⟨rfl, hp⟩
         obtain ⟨v9, st⟩ := st.wr (i := 1) rfl hp
         dsimp only [setNth] at st
         refine vc_end (vq_block ?_)
         refine vq_meet v9 ⟨rfl, rfl, rfl, trivial⟩ (by unfold hdS; first | (rw [if_pos (by assumption), hxt]; simpa only [List.append_assoc] using st) | (rw [if_neg (by assumption), if_pos (by assumption), hxt]; simpa only [List.append_assoc] using st) | (rw [if_neg (by assumption), if_neg (by assumption), if_pos (by assumption), hxt]; simpa only [List.append_assoc] using st) | (rw [if_neg (by assumption), if_neg (by assumption), if_neg (by assumption), if_pos (by assumption)]; simpa only [List.append_assoc] using st) | (rw [if_neg (by assumption), if_neg (by assumption), if_neg (by assumption), if_neg (by assumption), if_pos (by assumption)]; simpa only [List.append_assoc] using st) | (rw [if_neg (by assumption), if_neg (by assumption), if_neg (by assumption), if_neg (by assumption), if_neg (by assumption), hxt]; simpa only [List.append_assoc] using st) | (exfalso; omega)) ?_
         ·
          trivial
       ·
        intro hc69
        try simp only [dn] at hc69
        refine vc_region ?_
        refine vc_y rfl rfl (y_eqi rfl rfl) ?_
        refine vc_y rfl rfl (y_as rfl) ?_
        refine vc_end (vq_then (vc_keep [(0, _), (2, _), (4, _), (69, _)] ⟨rfl, rfl, rfl, rfl, trivial⟩ ?_))
        refine vc_ifs rfl ?_ ?_
        ·
         intro hc69
         try simp only [dn] at hc69
         obtain ⟨x, hx, hlen, hRx⟩ := rightX_inv (by unfold hasE; simp only [decide_eq_true_eq]; omega) r4
         obtain ⟨eb, eo, rfl, heS, hel, heg⟩ := ExRow.at hse (by omega)
         obtain ⟨o0, c0, hV0, hr0, hc0⟩ := heg 0 x hx
         have hxt := txX_eq hx
         have hkx := hok.e.2 0 x hx
         refine vc_cut (w0 := w0) (M := (bw :: v.ownBlock.toList)) (fun (_ : Value) => [(0, .pointer (some ⟨bw, 0, none⟩)), (2, .int .i64 (d : Int)), (4, .pointer (some ⟨b4, 0, none⟩))]) (fun v1 => [.blk b4 (.cells (smL s (some ⟨eb, eo, none⟩) ob ol ce cb cl).toArray 70 (0, 0)), wrR (bw :: v.ownBlock.toList) w0.heap.size 5 n0 53 bw v1 (F ++ mar d ++ (if s.k = 4 then [119, 104, 105, 108, 101, 32, 40] else [105, 102, 32, 40]))]) (fun _ _ => True) ?_ ?_
         ·
          refine vc_seq (vc_region ?_)
          refine vc_y rfl rfl (y_fa0 rfl underlying70 rfl rfl sizeOf68 rfl) ?_
          refine vc_y rfl rfl ((by exact y_ld st 0 rfl isAgg68 rfl rfl)) ?_
          refine vc_y rfl rfl (y_eqi rfl rfl) ?_
          refine vc_end (vq_then (vc_keep [(0, _), (2, _), (4, _), (74, _)] ⟨rfl, rfl, rfl, rfl, trivial⟩ ?_))
          refine vc_ifs rfl ?_ ?_
          ·
           intro hc74
           try simp only [dn] at hc74
           refine vc_region ?_
           refine vc_y rfl rfl (y_mv rfl) ?_
           refine vc_e (e_call [_, _] rfl rfl call24 rfl (rput_any bw _ _ _ _ (by exact st.wrGet (i := 1) rfl) (Nat.le_trans hn0 st.chg.size) (by simp only [List.length_append, List.length_cons, List.length_nil]; omega)) ?_)
           rintro _ w ⟨rfl, hp⟩
           obtain ⟨v9, st⟩ := st.wr (i := 1) rfl hp
           dsimp only [setNth] at st
           refine vc_end ?_
           refine vq_meet v9 ⟨rfl, rfl, rfl, trivial⟩ (by first | (rw [if_pos (by omega)]; exact st) | (rw [if_neg (by omega)]; exact st)) ?_
           ·
            trivial
          ·
           intro hc74
           try simp only [dn] at hc74
           refine vc_region ?_
           refine vc_y rfl rfl (y_mv rfl) ?_
           refine vc_e (e_call [_, _] rfl rfl call24 rfl (rput_any bw _ _ _ _ (by exact st.wrGet (i := 1) rfl) (Nat.le_trans hn0 st.chg.size) (by simp only [List.length_append, List.length_cons, List.length_nil]; omega)) ?_)
           rintro _ w ⟨rfl, hp⟩
           obtain ⟨v9, st⟩ := st.wr (i := 1) rfl hp
           dsimp only [setNth] at st
           refine vc_end ?_
           refine vq_meet v9 ⟨rfl, rfl, rfl, trivial⟩ (by first | (rw [if_pos (by omega)]; exact st) | (rw [if_neg (by omega)]; exact st)) ?_
           ·
            trivial
         ·
          clear st
          rintro v2 w - st
          refine vc_seq (vc_region ?_)
          refine vc_y rfl rfl (y_mv rfl) ?_
          refine vc_y rfl rfl ((by exact y_faz (k := 3) rfl underlying70 rfl rfl sizeOf61 rfl)) ?_
          refine vc_y rfl rfl ((by exact y_ld st 0 rfl isAgg61 rfl rfl)) ?_
          refine vc_y rfl rfl ((by exact y_ia (k := 0) rfl rfl underlying61 sizeOf63 rfl (by omega))) ?_
          refine vc_y rfl rfl ((by exact y_ldca (exL x o0 c0) rfl isAgg63 sizeOf63 rfl (fun i v hi => st.chg.cell (hc0 i v hi) (hW.notin heS)))) ?_
          refine vc_e (e_call [_, _] rfl rfl call92 rfl (rtext_any _ x rfl 0 hRx hkx bw _ _ _ _ (hV0.kept (hsame st.chg)) (by exact st.wrGet (i := 1) rfl) (Nat.le_trans hn0 st.chg.size)) ?_)
          rintro _ w ⟨rfl, hp⟩
          obtain ⟨v9, st⟩ := st.wr (i := 1) rfl hp
          dsimp only [setNth] at st
          refine vc_end (vq_then (vc_keep [(0, _), (2, _), (4, _)] ⟨rfl, rfl, rfl, trivial⟩ (vc_region ?_)))
          refine vc_y rfl rfl (y_mv rfl) ?_
          refine vc_e (e_call [_, _] rfl rfl call24 rfl (rput_any bw _ _ _ _ (by exact st.wrGet (i := 1) rfl) (Nat.le_trans hn0 st.chg.size) (by simp only [List.length_append, List.length_cons, List.length_nil]; omega)) ?_)
          rintro _ w ⟨rfl, hp⟩
          obtain ⟨v9, st⟩ := st.wr (i := 1) rfl hp
          dsimp only [setNth] at st
          refine vc_end (vq_block ?_)
          refine vq_meet v9 ⟨rfl, rfl, rfl, trivial⟩ (by unfold hdS; first | (rw [if_pos (by assumption), hxt]; simpa only [List.append_assoc] using st) | (rw [if_neg (by assumption), if_pos (by assumption), hxt]; simpa only [List.append_assoc] using st) | (rw [if_neg (by assumption), if_neg (by assumption), if_pos (by assumption), hxt]; simpa only [List.append_assoc] using st) | (rw [if_neg (by assumption), if_neg (by assumption), if_neg (by assumption), if_pos (by assumption)]; simpa only [List.append_assoc] using st) | (rw [if_neg (by assumption), if_neg (by assumption), if_neg (by assumption), if_neg (by assumption), if_pos (by assumption)]; simpa only [List.append_assoc] using st) | (rw [if_neg (by assumption), if_neg (by assumption), if_neg (by assumption), if_neg (by assumption), if_neg (by assumption), hxt]; simpa only [List.append_assoc] using st) | (exfalso; omega)) ?_
          ·
           trivial
        ·
         intro hc69
         try simp only [dn] at hc69
         refine vc_code_skip (vq_block ?_)
         refine vq_meet v9 ⟨rfl, rfl, rfl, trivial⟩ (by unfold hdS; first | (rw [if_pos (by assumption), hxt]; simpa only [List.append_assoc] using st) | (rw [if_neg (by assumption), if_pos (by assumption), hxt]; simpa only [List.append_assoc] using st) | (rw [if_neg (by assumption), if_neg (by assumption), if_pos (by assumption), hxt]; simpa only [List.append_assoc] using st) | (rw [if_neg (by assumption), if_neg (by assumption), if_neg (by assumption), if_pos (by assumption)]; simpa only [List.append_assoc] using st) | (rw [if_neg (by assumption), if_neg (by assumption), if_neg (by assumption), if_neg (by assumption), if_pos (by assumption)]; simpa only [List.append_assoc] using st) | (rw [if_neg (by assumption), if_neg (by assumption), if_neg (by assumption), if_neg (by assumption), if_neg (by assumption), hxt]; simpa only [List.append_assoc] using st) | (exfalso; omega)) ?_
         ·
          trivial
 ·
  clear st
  rintro v2 w - st
  refine vc_seq (vc_seq (vc_region ?_))
  refine vc_y rfl rfl (y_fa0 rfl underlying70 rfl rfl sizeOf68 rfl) ?_
  refine vc_y rfl rfl ((by exact y_ld st 0 rfl isAgg68 rfl rfl)) ?_
  refine vc_y rfl rfl (y_nei rfl rfl) ?_
  refine vc_e (e_mvb rfl rfl rfl ?_ ?_)
  ·
   intro hg90
   try simp only [dn] at hg90
   refine vc_y rfl rfl (y_fa0 rfl underlying70 rfl rfl sizeOf68 rfl) ?_
   refine vc_y rfl rfl ((by exact y_ld st 0 rfl isAgg68 rfl rfl)) ?_
   refine vc_y rfl rfl (y_nei rfl rfl) ?_
   refine vc_y rfl rfl (y_pickt rfl rfl) ?_
   refine vc_e (e_mvb rfl rfl rfl ?_ ?_)
   ·
    intro hg95
    try simp only [dn] at hg95
    refine vc_y rfl rfl (y_fa0 rfl underlying70 rfl rfl sizeOf68 rfl) ?_
    refine vc_y rfl rfl ((by exact y_ld st 0 rfl isAgg68 rfl rfl)) ?_
    refine vc_y rfl rfl (y_nei rfl rfl) ?_
    refine vc_y rfl rfl (y_pickt rfl rfl) ?_
    refine vc_end (vq_then (vc_keep [(0, _), (2, _), (4, _), (99, _)] ⟨rfl, rfl, rfl, rfl, trivial⟩ ?_))
    refine vc_ifs rfl ?_ ?_
    ·
     intro hc99
     try simp only [dn] at hc99
     refine vc_ret (vq_then_ret ?_)
     refine vq_ret0 (.inl rfl) results61 ?_
     refine ⟨_, rfl, ?_⟩
     refine ⟨rfl, (st.wrDone (i := 1) rfl).eq ?_⟩
     first
      | (exfalso; omega)
      | (rw [txtS_flat (by omega)]; simp only [List.append_assoc])
      | (rw [txtS_lock (by omega)]; simp only [List.append_assoc])
      | (rw [txtS_cond (by omega), if_pos (by omega)]; simp only [List.append_assoc])
      | (rw [txtS_cond (by omega), if_neg (by omega)]; simp only [List.append_assoc, List.nil_append])
      | (exfalso; omega)
    ·
     intro hc99
     try simp only [dn] at hc99
     refine vc_code_skip (vq_then (vc_keep [(0, _), (2, _), (4, _)] ⟨rfl, rfl, rfl, trivial⟩ (vc_seq (vc_region ?_))))
     have hd64 : d < 64 := by
      rcases r7 with h | h
      ·
       have hB : hasB s.k = true := by unfold hasB; simp only [decide_eq_true_eq]; omega
       rw [hB] at h; cases h.1
      ·
       exact h
     refine vc_y rfl rfl (y_mv rfl) ?_
     refine vc_y rfl rfl ((by exact y_faz (k := 4) rfl underlying70 rfl rfl sizeOf40 rfl)) ?_
     refine vc_y rfl rfl ((by exact y_ld st 0 rfl isAgg40 rfl rfl)) ?_
     refine vc_y rfl rfl (y_mv rfl) ?_
     refine vc_y rfl rfl (y_add rfl rfl (by omega : _ = ((d + 1 : Nat) : Int)) (by omega) (by omega)) ?_
     refine vc_e (e_call [_, _, _] rfl rfl call25 rfl (hrec _ (.inl rfl) bw _ _ _ _ _ (hsb.kept (hsame st.chg)) (by exact st.wrGet (i := 1) rfl) (Nat.le_trans hn0 st.chg.size) (by have := hd64; omega)) ?_)
     rintro _ w ⟨rfl, hp⟩
     obtain ⟨v9, st⟩ := st.wr (i := 1) rfl hp
     dsimp only [setNth] at st
     refine vc_end (vq_then (vc_keep [(0, _), (2, _), (4, _)] ⟨rfl, rfl, rfl, trivial⟩ (vc_seq (vc_region ?_))))
     iterate 2 refine vc_y rfl rfl (y_mv rfl) ?_
     refine vc_e (e_call [_, _] rfl rfl call91 rfl (rmargin_any bw _ _ d _ (by exact st.wrGet (i := 1) rfl) (Nat.le_trans hn0 st.chg.size) (by omega)) ?_)
     rintro _ w ⟨rfl, hp⟩
     obtain ⟨v9, st⟩ := st.wr (i := 1) rfl hp
     dsimp only [setNth] at st
     refine vc_end (vq_then (vc_keep [(0, _), (2, _), (4, _)] ⟨rfl, rfl, rfl, trivial⟩ (vc_seq (vc_seq (vc_region ?_)))))
     refine vc_y rfl rfl ((by exact y_faz (k := 5) rfl underlying70 rfl rfl sizeOf40 rfl)) ?_
     refine vc_y rfl rfl ((by exact y_ld st 0 rfl isAgg40 rfl rfl)) ?_
     refine vc_y rfl rfl (y_lensl rfl underlying40) ?_
     refine vc_y rfl rfl (y_gtr rfl rfl) ?_
     refine vc_end (vq_then (vc_keep [(0, _), (2, _), (4, _), (112, _)] ⟨rfl, rfl, rfl, rfl, trivial⟩ ?_))
     refine vc_ifs rfl ?_ ?_
     ·
      intro hc112
      try simp only [dn] at hc112
      refine vc_seq (vc_region ?_)
      refine vc_y rfl rfl (y_mv rfl) ?_
      refine vc_e (e_call [_, _] rfl rfl call24 rfl (rput_any bw _ _ _ _ (by exact st.wrGet (i := 1) rfl) (Nat.le_trans hn0 st.chg.size) (by simp only [List.length_append, List.length_cons, List.length_nil]; omega)) ?_)
      rintro _ w ⟨rfl, hp⟩
      obtain ⟨v9, st⟩ := st.wr (i := 1) rfl hp
      dsimp only [setNth] at st
      refine vc_end (vq_then (vc_keep [(0, _), (2, _), (4, _)] ⟨rfl, rfl, rfl, trivial⟩ (vc_seq (vc_region ?_))))
      refine vc_y rfl rfl (y_mv rfl) ?_
      refine vc_y rfl rfl ((by exact y_faz (k := 5) rfl underlying70 rfl rfl sizeOf40 rfl)) ?_
      refine vc_y rfl rfl ((by exact y_ld st 0 rfl isAgg40 rfl rfl)) ?_
      refine vc_y rfl rfl (y_mv rfl) ?_
      refine vc_y rfl rfl (y_add rfl rfl (by omega : _ = ((d + 1 : Nat) : Int)) (by omega) (by omega)) ?_
      refine vc_e (e_call [_, _, _] rfl rfl call25 rfl (hrec _ (.inr rfl) bw _ _ _ _ _ (hsl.kept (hsame st.chg)) (by exact st.wrGet (i := 1) rfl) (Nat.le_trans hn0 st.chg.size) (by have := hd64; omega)) ?_)
      rintro _ w ⟨rfl, hp⟩
      obtain ⟨v9, st⟩ := st.wr (i := 1) rfl hp
      dsimp only [setNth] at st
      refine vc_end (vq_then (vc_keep [(0, _), (2, _)] ⟨rfl, rfl, trivial⟩ (vc_region ?_)))
      iterate 2 refine vc_y rfl rfl (y_mv rfl) ?_
      refine vc_e (e_call [_, _] rfl rfl call91 rfl (rmargin_any bw _ _ d _ (by exact st.wrGet (i := 1) rfl) (Nat.le_trans hn0 st.chg.size) (by omega)) ?_)
      rintro _ w ⟨rfl, hp⟩
      obtain ⟨v9, st⟩ := st.wr (i := 1) rfl hp
      dsimp only [setNth] at st
      refine vc_end (vq_then (vc_keep [(0, _)] ⟨rfl, trivial⟩ (vc_region ?_)))
      refine vc_y rfl rfl (y_mv rfl) ?_
      refine vc_e (e_call [_, _] rfl rfl call24 rfl (rput_any bw _ _ _ _ (by exact st.wrGet (i := 1) rfl) (Nat.le_trans hn0 st.chg.size) (by simp only [List.length_append, List.length_cons, List.length_nil]; omega)) ?_)
      rintro _ w ⟨rfl, hp⟩
      obtain ⟨v9, st⟩ := st.wr (i := 1) rfl hp
      dsimp only [setNth] at st
      refine vc_end ?_
      refine vq_ret0 (.inr rfl) results61 ?_
      refine ⟨_, rfl, ?_⟩
      refine ⟨rfl, (st.wrDone (i := 1) rfl).eq ?_⟩
      first
       | (exfalso; omega)
       | (rw [txtS_flat (by omega)]; simp only [List.append_assoc])
       | (rw [txtS_lock (by omega)]; simp only [List.append_assoc])
       | (rw [txtS_cond (by omega), if_pos (by omega)]; simp only [List.append_assoc])
       | (rw [txtS_cond (by omega), if_neg (by omega)]; simp only [List.append_assoc, List.nil_append])
       | (exfalso; omega)
     ·
      intro hc112
      try simp only [dn] at hc112
      refine vc_code_skip (vq_then (vc_keep [(0, _)] ⟨rfl, trivial⟩ (vc_region ?_)))
      refine vc_y rfl rfl (y_mv rfl) ?_
      refine vc_e (e_call [_, _] rfl rfl call24 rfl (rput_any bw _ _ _ _ (by exact st.wrGet (i := 1) rfl) (Nat.le_trans hn0 st.chg.size) (by simp only [List.length_append, List.length_cons, List.length_nil]; omega)) ?_)
      rintro _ w ⟨rfl, hp⟩
      obtain ⟨v9, st⟩ := st.wr (i := 1) rfl hp
      dsimp only [setNth] at st
      refine vc_end ?_
      refine vq_ret0 (.inr rfl) results61 ?_
      refine ⟨_, rfl, ?_⟩
      refine ⟨rfl, (st.wrDone (i := 1) rfl).eq ?_⟩
      first
       | (exfalso; omega)
       | (rw [txtS_flat (by omega)]; simp only [List.append_assoc])
       | (rw [txtS_lock (by omega)]; simp only [List.append_assoc])
       | (rw [txtS_cond (by omega), if_pos (by omega)]; simp only [List.append_assoc])
       | (rw [txtS_cond (by omega), if_neg (by omega)]; simp only [List.append_assoc, List.nil_append])
       | (exfalso; omega)
   ·
    intro hg95
    try simp only [dn] at hg95
    iterate 3 refine vc_e (e_skip rfl rfl ?_)
    refine vc_y rfl rfl (y_pickf rfl rfl) ?_
    refine vc_end (vq_then (vc_keep [(0, _), (2, _), (4, _), (99, _)] ⟨rfl, rfl, rfl, rfl, trivial⟩ ?_))
    refine vc_iff rfl ?_
    refine vc_code_skip (vq_then (vc_keep [(0, _), (2, _), (4, _)] ⟨rfl, rfl, rfl, trivial⟩ (vc_seq (vc_region ?_))))
    have hd64 : d < 64 := by
     rcases r7 with h | h
     ·
      have hB : hasB s.k = true := by unfold hasB; simp only [decide_eq_true_eq]; omega
      rw [hB] at h; cases h.1
     ·
      exact h
    refine vc_y rfl rfl (y_mv rfl) ?_
    refine vc_y rfl rfl ((by exact y_faz (k := 4) rfl underlying70 rfl rfl sizeOf40 rfl)) ?_
    refine vc_y rfl rfl ((by exact y_ld st 0 rfl isAgg40 rfl rfl)) ?_
    refine vc_y rfl rfl (y_mv rfl) ?_
    refine vc_y rfl rfl (y_add rfl rfl (by omega : _ = ((d + 1 : Nat) : Int)) (by omega) (by omega)) ?_
    refine vc_e (e_call [_, _, _] rfl rfl call25 rfl (hrec _ (.inl rfl) bw _ _ _ _ _ (hsb.kept (hsame st.chg)) (by exact st.wrGet (i := 1) rfl) (Nat.le_trans hn0 st.chg.size) (by have := hd64; omega)) ?_)
    rintro _ w ⟨rfl, hp⟩
    obtain ⟨v9, st⟩ := st.wr (i := 1) rfl hp
    dsimp only [setNth] at st
    refine vc_end (vq_then (vc_keep [(0, _), (2, _), (4, _)] ⟨rfl, rfl, rfl, trivial⟩ (vc_seq (vc_region ?_))))
    iterate 2 refine vc_y rfl rfl (y_mv rfl) ?_
    refine vc_e (e_call [_, _] rfl rfl call91 rfl (rmargin_any bw _ _ d _ (by exact st.wrGet (i := 1) rfl) (Nat.le_trans hn0 st.chg.size) (by omega)) ?_)
    rintro _ w ⟨rfl, hp⟩
    obtain ⟨v9, st⟩ := st.wr (i := 1) rfl hp
    dsimp only [setNth] at st
    refine vc_end (vq_then (vc_keep [(0, _), (2, _), (4, _)] ⟨rfl, rfl, rfl, trivial⟩ (vc_seq (vc_seq (vc_region ?_)))))
    refine vc_y rfl rfl ((by exact y_faz (k := 5) rfl underlying70 rfl rfl sizeOf40 rfl)) ?_
    refine vc_y rfl rfl ((by exact y_ld st 0 rfl isAgg40 rfl rfl)) ?_
    refine vc_y rfl rfl (y_lensl rfl underlying40) ?_
    refine vc_y rfl rfl (y_gtr rfl rfl) ?_
    refine vc_end (vq_then (vc_keep [(0, _), (2, _), (4, _), (112, _)] ⟨rfl, rfl, rfl, rfl, trivial⟩ ?_))
    refine vc_ifs rfl ?_ ?_
    ·
     intro hc112
     try simp only [dn] at hc112
     refine vc_seq (vc_region ?_)
     refine vc_y rfl rfl (y_mv rfl) ?_
     refine vc_e (e_call [_, _] rfl rfl call24 rfl (rput_any bw _ _ _ _ (by exact st.wrGet (i := 1) rfl) (Nat.le_trans hn0 st.chg.size) (by simp only [List.length_append, List.length_cons, List.length_nil]; omega)) ?_)
     rintro _ w ⟨rfl, hp⟩
     obtain ⟨v9, st⟩ := st.wr (i := 1) rfl hp
     dsimp only [setNth] at st
     refine vc_end (vq_then (vc_keep [(0, _), (2, _), (4, _)] ⟨rfl, rfl, rfl, trivial⟩ (vc_seq (vc_region ?_))))
     refine vc_y rfl rfl (y_mv rfl) ?_
     refine vc_y rfl rfl ((by exact y_faz (k := 5) rfl underlying70 rfl rfl sizeOf40 rfl)) ?_
     refine vc_y rfl rfl ((by exact y_ld st 0 rfl isAgg40 rfl rfl)) ?_
     refine vc_y rfl rfl (y_mv rfl) ?_
     refine vc_y rfl rfl (y_add rfl rfl (by omega : _ = ((d + 1 : Nat) : Int)) (by omega) (by omega)) ?_
     refine vc_e (e_call [_, _, _] rfl rfl call25 rfl (hrec _ (.inr rfl) bw _ _ _ _ _ (hsl.kept (hsame st.chg)) (by exact st.wrGet (i := 1) rfl) (Nat.le_trans hn0 st.chg.size) (by have := hd64; omega)) ?_)
     rintro _ w ⟨rfl, hp⟩
     obtain ⟨v9, st⟩ := st.wr (i := 1) rfl hp
     dsimp only [setNth] at st
     refine vc_end (vq_then (vc_keep [(0, _), (2, _)] ⟨rfl, rfl, trivial⟩ (vc_region ?_)))
     iterate 2 refine vc_y rfl rfl (y_mv rfl) ?_
     refine vc_e (e_call [_, _] rfl rfl call91 rfl (rmargin_any bw _ _ d _ (by exact st.wrGet (i := 1) rfl) (Nat.le_trans hn0 st.chg.size) (by omega)) ?_)
     rintro _ w ⟨rfl, hp⟩
     obtain ⟨v9, st⟩ := st.wr (i := 1) rfl hp
     dsimp only [setNth] at st
     refine vc_end (vq_then (vc_keep [(0, _)] ⟨rfl, trivial⟩ (vc_region ?_)))
     refine vc_y rfl rfl (y_mv rfl) ?_
     refine vc_e (e_call [_, _] rfl rfl call24 rfl (rput_any bw _ _ _ _ (by exact st.wrGet (i := 1) rfl) (Nat.le_trans hn0 st.chg.size) (by simp only [List.length_append, List.length_cons, List.length_nil]; omega)) ?_)
     rintro _ w ⟨rfl, hp⟩
     obtain ⟨v9, st⟩ := st.wr (i := 1) rfl hp
     dsimp only [setNth] at st
     refine vc_end ?_
     refine vq_ret0 (.inr rfl) results61 ?_
     refine ⟨_, rfl, ?_⟩
     refine ⟨rfl, (st.wrDone (i := 1) rfl).eq ?_⟩
     first
      | (exfalso; omega)
      | (rw [txtS_flat (by omega)]; simp only [List.append_assoc])
      | (rw [txtS_lock (by omega)]; simp only [List.append_assoc])
      | (rw [txtS_cond (by omega), if_pos (by omega)]; simp only [List.append_assoc])
      | (rw [txtS_cond (by omega), if_neg (by omega)]; simp only [List.append_assoc, List.nil_append])
      | (exfalso; omega)
    ·
     intro hc112
     try simp only [dn] at hc112
     refine vc_code_skip (vq_then (vc_keep [(0, _)] ⟨rfl, trivial⟩ (vc_region ?_)))
     refine vc_y rfl rfl (y_mv rfl) ?_
     refine vc_e (e_call [_, _] rfl rfl call24 rfl (rput_any bw _ _ _ _ (by exact st.wrGet (i := 1) rfl) (Nat.le_trans hn0 st.chg.size) (by simp only [List.length_append, List.length_cons, List.length_nil]; omega)) ?_)
     rintro _ w ⟨rfl, hp⟩
     obtain ⟨v9, st⟩ := st.wr (i := 1) rfl hp
     dsimp only [setNth] at st
     refine vc_end ?_
     refine vq_ret0 (.inr rfl) results61 ?_
     refine ⟨_, rfl, ?_⟩
     refine ⟨rfl, (st.wrDone (i := 1) rfl).eq ?_⟩
     first
      | (exfalso; omega)
      | (rw [txtS_flat (by omega)]; simp only [List.append_assoc])
      | (rw [txtS_lock (by omega)]; simp only [List.append_assoc])
      | (rw [txtS_cond (by omega), if_pos (by omega)]; simp only [List.append_assoc])
      | (rw [txtS_cond (by omega), if_neg (by omega)]; simp only [List.append_assoc, List.nil_append])
      | (exfalso; omega)
  ·
   intro hg90
   try simp only [dn] at hg90
   iterate 3 refine vc_e (e_skip rfl rfl ?_)
   refine vc_y rfl rfl (y_pickf rfl rfl) ?_
   refine vc_y rfl rfl (y_mv rfl) ?_
   iterate 3 refine vc_e (e_skip rfl rfl ?_)
   refine vc_y rfl rfl (y_pickf rfl rfl) ?_
   refine vc_end (vq_then (vc_keep [(0, _), (2, _), (4, _), (99, _)] ⟨rfl, rfl, rfl, rfl, trivial⟩ ?_))
   refine vc_iff rfl ?_
   refine vc_code_skip (vq_then (vc_keep [(0, _), (2, _), (4, _)] ⟨rfl, rfl, rfl, trivial⟩ (vc_seq (vc_region ?_))))
   have hd64 : d < 64 := by
    rcases r7 with h | h
    ·
     have hB : hasB s.k = true := by unfold hasB; simp only [decide_eq_true_eq]; omega
     rw [hB] at h; cases h.1
    ·
     exact h
   refine vc_y rfl rfl (y_mv rfl) ?_
   refine vc_y rfl rfl ((by exact y_faz (k := 4) rfl underlying70 rfl rfl sizeOf40 rfl)) ?_
   refine vc_y rfl rfl ((by exact y_ld st 0 rfl isAgg40 rfl rfl)) ?_
   refine vc_y rfl rfl (y_mv rfl) ?_
   refine vc_y rfl rfl (y_add rfl rfl (by omega : _ = ((d + 1 : Nat) : Int)) (by omega) (by omega)) ?_
   refine vc_e (e_call [_, _, _] rfl rfl call25 rfl (hrec _ (.inl rfl) bw _ _ _ _ _ (hsb.kept (hsame st.chg)) (by exact st.wrGet (i := 1) rfl) (Nat.le_trans hn0 st.chg.size) (by have := hd64; omega)) ?_)
   rintro _ w ⟨rfl, hp⟩
   obtain ⟨v9, st⟩ := st.wr (i := 1) rfl hp
   dsimp only [setNth] at st
   refine vc_end (vq_then (vc_keep [(0, _), (2, _), (4, _)] ⟨rfl, rfl, rfl, trivial⟩ (vc_seq (vc_region ?_))))
   iterate 2 refine vc_y rfl rfl (y_mv rfl) ?_
   refine vc_e (e_call [_, _] rfl rfl call91 rfl (rmargin_any bw _ _ d _ (by exact st.wrGet (i := 1) rfl) (Nat.le_trans hn0 st.chg.size) (by omega)) ?_)
   rintro _ w ⟨rfl, hp⟩
   obtain ⟨v9, st⟩ := st.wr (i := 1) rfl hp
   dsimp only [setNth] at st
   refine vc_end (vq_then (vc_keep [(0, _), (2, _), (4, _)] ⟨rfl, rfl, rfl, trivial⟩ (vc_seq (vc_seq (vc_region ?_)))))
   refine vc_y rfl rfl ((by exact y_faz (k := 5) rfl underlying70 rfl rfl sizeOf40 rfl)) ?_
   refine vc_y rfl rfl ((by exact y_ld st 0 rfl isAgg40 rfl rfl)) ?_
   refine vc_y rfl rfl (y_lensl rfl underlying40) ?_
   refine vc_y rfl rfl (y_gtr rfl rfl) ?_
   refine vc_end (vq_then (vc_keep [(0, _), (2, _), (4, _), (112, _)] ⟨rfl, rfl, rfl, rfl, trivial⟩ ?_))
   refine vc_ifs rfl ?_ ?_
   ·
    intro hc112
    try simp only [dn] at hc112
    refine vc_seq (vc_region ?_)
    refine vc_y rfl rfl (y_mv rfl) ?_
    refine vc_e (e_call [_, _] rfl rfl call24 rfl (rput_any bw _ _ _ _ (by exact st.wrGet (i := 1) rfl) (Nat.le_trans hn0 st.chg.size) (by simp only [List.length_append, List.length_cons, List.length_nil]; omega)) ?_)
    rintro _ w ⟨rfl, hp⟩
    obtain ⟨v9, st⟩ := st.wr (i := 1) rfl hp
    dsimp only [setNth] at st
    refine vc_end (vq_then (vc_keep [(0, _), (2, _), (4, _)] ⟨rfl, rfl, rfl, trivial⟩ (vc_seq (vc_region ?_))))
    refine vc_y rfl rfl (y_mv rfl) ?_
    refine vc_y rfl rfl ((by exact y_faz (k := 5) rfl underlying70 rfl rfl sizeOf40 rfl)) ?_
    refine vc_y rfl rfl ((by exact y_ld st 0 rfl isAgg40 rfl rfl)) ?_
    refine vc_y rfl rfl (y_mv rfl) ?_
    refine vc_y rfl rfl (y_add rfl rfl (by omega : _ = ((d + 1 : Nat) : Int)) (by omega) (by omega)) ?_
    refine vc_e (e_call [_, _, _] rfl rfl call25 rfl (hrec _ (.inr rfl) bw _ _ _ _ _ (hsl.kept (hsame st.chg)) (by exact st.wrGet (i := 1) rfl) (Nat.le_trans hn0 st.chg.size) (by have := hd64; omega)) ?_)
    rintro _ w ⟨rfl, hp⟩
    obtain ⟨v9, st⟩ := st.wr (i := 1) rfl hp
    dsimp only [setNth] at st
    refine vc_end (vq_then (vc_keep [(0, _), (2, _)] ⟨rfl, rfl, trivial⟩ (vc_region ?_)))
    iterate 2 refine vc_y rfl rfl (y_mv rfl) ?_
    refine vc_e (e_call [_, _] rfl rfl call91 rfl (rmargin_any bw _ _ d _ (by exact st.wrGet (i := 1) rfl) (Nat.le_trans hn0 st.chg.size) (by omega)) ?_)
    rintro _ w ⟨rfl, hp⟩
    obtain ⟨v9, st⟩ := st.wr (i := 1) rfl hp
    dsimp only [setNth] at st
    refine vc_end (vq_then (vc_keep [(0, _)] ⟨rfl, trivial⟩ (vc_region ?_)))
    refine vc_y rfl rfl (y_mv rfl) ?_
    refine vc_e (e_call [_, _] rfl rfl call24 rfl (rput_any bw _ _ _ _ (by exact st.wrGet (i := 1) rfl) (Nat.le_trans hn0 st.chg.size) (by simp only [List.length_append, List.length_cons, List.length_nil]; omega)) ?_)
    rintro _ w ⟨rfl, hp⟩
    obtain ⟨v9, st⟩ := st.wr (i := 1) rfl hp
    dsimp only [setNth] at st
    refine vc_end ?_
    refine vq_ret0 (.inr rfl) results61 ?_
    refine ⟨_, rfl, ?_⟩
    refine ⟨rfl, (st.wrDone (i := 1) rfl).eq ?_⟩
    first
     | (exfalso; omega)
     | (rw [txtS_flat (by omega)]; simp only [List.append_assoc])
     | (rw [txtS_lock (by omega)]; simp only [List.append_assoc])
     | (rw [txtS_cond (by omega), if_pos (by omega)]; simp only [List.append_assoc])
     | (rw [txtS_cond (by omega), if_neg (by omega)]; simp only [List.append_assoc, List.nil_append])
     | (exfalso; omega)
   ·
    intro hc112
    try simp only [dn] at hc112
    refine vc_code_skip (vq_then (vc_keep [(0, _)] ⟨rfl, trivial⟩ (vc_region ?_)))
    refine vc_y rfl rfl (y_mv rfl) ?_
    refine vc_e (e_call [_, _] rfl rfl call24 rfl (rput_any bw _ _ _ _ (by exact st.wrGet (i := 1) rfl) (Nat.le_trans hn0 st.chg.size) (by simp only [List.length_append, List.length_cons, List.length_nil]; omega)) ?_)
    rintro _ w ⟨rfl, hp⟩
    obtain ⟨v9, st⟩ := st.wr (i := 1) rfl hp
    dsimp only [setNth] at st
    refine vc_end ?_
    refine vq_ret0 (.inr rfl) results61 ?_
    refine ⟨_, rfl, ?_⟩
    refine ⟨rfl, (st.wrDone (i := 1) rfl).eq ?_⟩
    first
     | (exfalso; omega)
     | (rw [txtS_flat (by omega)]; simp only [List.append_assoc])
     | (rw [txtS_lock (by omega)]; simp only [List.append_assoc])
     | (rw [txtS_cond (by omega), if_pos (by omega)]; simp only [List.append_assoc])
     | (rw [txtS_cond (by omega), if_neg (by omega)]; simp only [List.append_assoc, List.nil_append])
     | (exfalso; omega)

set_option maxHeartbeats 1000000 in
theorem rblockT_any : ∀ (n : Nat) (ss : List Sm), szo ss = n → ∀ (d : Nat), d ≤ 64 → rightSs ss d = true → OkSs ss → ∀ (bw : Nat) (v : Value) (F : List UInt8) (oa : Option Addr) (cap : Nat) (w : World), SmRow w (· < n0) oa ss → Wr 5 n0 53 bw v F w → n0 ≤ w.heap.size →
    Ret Tryd.prog 25 [.pointer (some ⟨bw, 0, none⟩), .slice oa ss.length cap, .int .i64 (d : Int)] w fun r w' => r = .tuple #[] ∧ WrP 5 n0 53 bw v (F ++ txtSs ss d) w w' := by
 intro n
 refine Nat.strongRecOn n fun n ih => ?_
 intro ss hn d hd hR hok bw v F oa cap w hr hW hn0
 subst hn
 have hssl := hok.1
 refine ret_of [_, _, _] func25 rfl ntmps25 rfl ?_
 have st := St.init w []
 clear st
 obtain ⟨w0, rfl⟩ : ∃ w0, w0 = w := ⟨_, rfl⟩
 have st := St.wrInit hW
 have hsame : ∀ {w1 : World}, Chg (bw :: v.ownBlock.toList) w0 w1 → Same (· < n0) w0 w1 := fun c => hW.same c
 refine vc_seq (vc_region ?_)
 refine vc_y rfl rfl (y_as rfl) ?_
 refine vc_end (vq_then (vc_keep [(0, _), (1, _), (2, _), (6, _)] ⟨rfl, rfl, rfl, rfl, trivial⟩ (vc_block ?_)))
 refine vc_loop (w0 := w0) (M := (bw :: v.ownBlock.toList)) (fun (x : Nat × Value) => [(0, .pointer (some ⟨bw, 0, none⟩)), (1, .slice oa ss.length cap), (2, .int .i64 (d : Int)), (6, .int .i64 (x.1 : Int))]) (fun x => [wrR (bw :: v.ownBlock.toList) w0.heap.size 5 n0 53 bw x.2 (F ++ txtSs (ss.take x.1) d)]) (fun x _ => x.1 ≤ ss.length) (fun x => ss.length - x.1) (0, v) ⟨rfl, rfl, rfl, rfl, trivial⟩ (by simpa [txtSs] using st) (by simp) ?_
 clear st
 rintro ⟨j, v1⟩ w hj st
 dsimp only at *
 obtain ⟨lq, many, hb, ho, hws, hx1, hx2⟩ := st.wrGet (i := 0) rfl
 refine vc_seq (vc_seq (vc_region ?_))
 iterate 2 refine vc_y rfl rfl (y_mv rfl) ?_
 refine vc_y rfl rfl (y_lensl rfl underlying40) ?_
 refine vc_y rfl rfl (y_lss rfl rfl) ?_
 refine vc_e (e_mvb rfl rfl rfl ?_ ?_)
 ·
  intro hg11
  try simp only [dn] at hg11
  refine vc_y rfl rfl (y_mv rfl) ?_
  refine vc_y rfl rfl (y_nck rfl) ?_
  refine vc_y rfl rfl ((by exact y_faz (k := 1) rfl underlying53 rfl rfl sizeOf4 rfl)) ?_
  refine vc_y rfl rfl ((by exact y_ldc rfl isAgg4 (ptr_cell hb))) ?_
  refine vc_y rfl rfl (y_not rfl) ?_
  refine vc_y rfl rfl (y_pickt rfl rfl) ?_
  refine vc_end (vq_then (vc_keep [(0, _), (1, _), (2, _), (6, _), (17, _)] ⟨rfl, rfl, rfl, rfl, rfl, trivial⟩ ?_))
  refine vc_ifs rfl ?_ ?_
  ·
   intro hc17
   try simp only [dn] at hc17
   refine vc_code_skip (vq_then (vc_keep [(0, _), (1, _), (2, _), (6, _)] ⟨rfl, rfl, rfl, rfl, trivial⟩ (vc_seq (vc_block (vc_region ?_)))))
   obtain ⟨s, hsj⟩ : ∃ s, ss[j]? = some s := ⟨_, List.getElem?_eq_getElem (by omega)⟩
   obtain ⟨gb, go, rfl, hgS, hgl, hg⟩ := SmRow.at hr (by omega)
   obtain ⟨oe, ob, ol, ce, cb, cl, hsV, hse, hsb, hsl, hc⟩ := hg j s hsj
   have hks := hok.2 j s hsj
   have hz := mem_size hsj
   have hB : szo s.body < szo ss := by have := (sm_kids s).1; omega
   have hL : szo s.els < szo ss := by have := (sm_kids s).2; omega
   have hRs := rightSs_get hR hsj
   have hRi := rightS_iff.1 hRs
   iterate 3 refine vc_y rfl rfl (y_mv rfl) ?_
   refine vc_y rfl rfl ((by exact y_ia (k := j) rfl rfl underlying40 sizeOf70 rfl (by omega))) ?_
   refine vc_y rfl rfl ((by exact y_ldca (smL s oe ob ol ce cb cl) rfl isAgg70 sizeOf70 rfl (fun i v hi => st.chg.cell (hc i v hi) (hW.notin hgS)))) ?_
   refine vc_y rfl rfl (y_mv rfl) ?_
   refine vc_e (e_call [_, _, _] rfl rfl call61 rfl (rstmtT_any s d hd hRs hks oe ob ol ce cb cl bw _ _ _ (hse.kept (hsame st.chg)) (hsb.kept (hsame st.chg)) (hsl.kept (hsame st.chg)) (by exact st.wrGet (i := 0) rfl) (Nat.le_trans hn0 st.chg.size) (fun l hl bw v F oa cap w hr hW hn hd => ih (szo l) (by rcases hl with h | h <;> subst h <;> omega) l rfl (d + 1) (by omega) (by rcases hl with h | h <;> subst h; exact hRi.2.2.2.2.2.2.2.1; exact hRi.2.2.2.2.2.2.2.2) (by rcases hl with h | h <;> subst h; exact hks.body; exact hks.els) bw v F oa cap w hr hW hn)) ?_)
   rintro _ w ⟨rfl, hp⟩
   obtain ⟨v9, st⟩ := st.wr (i := 0) rfl hp
   dsimp only [setNth] at st
   refine vc_end (vq_block (vq_then (vc_keep [(0, _), (1, _), (2, _), (6, _)] ⟨rfl, rfl, rfl, rfl, trivial⟩ (vc_region ?_))))
   refine vc_y rfl rfl (y_mv rfl) ?_
   refine vc_y rfl rfl (y_add rfl rfl (by omega : _ = ((j + 1 : Nat) : Int)) (by omega) (by omega)) ?_
   refine vc_y rfl rfl (y_as rfl) ?_
   refine vc_end ?_
   refine vq_again (j + 1, v9)  ⟨rfl, rfl, rfl, rfl, trivial⟩ (by rw [txtSs_succ hsj, ← List.append_assoc]; exact st) ?_ ?_
   ·
    dsimp only; omega
   ·
    dsimp only; omega
  ·
   intro hc17
   try simp only [dn] at hc17
   refine vc_exit (vq_then_exit (vq_then_exit (vq_block_exit ?_)))
   refine vq_ret0 (.inr rfl) results25 ?_
   refine ⟨_, rfl, ?_⟩
   refine ⟨rfl, ?_⟩
   first
    | (have hm : many = true := by assumption
       subst hm
       rw [txtSs_split ss d j, ← List.append_assoc]
       exact (st.wrDone (i := 0) rfl).over hb)
    | (obtain rfl : j = ss.length := by omega
       rw [List.take_length] at st
       exact st.wrDone (i := 0) rfl)
 ·
  intro hg11
  try simp only [dn] at hg11
  iterate 5 refine vc_e (e_skip rfl rfl ?_)
  refine vc_y rfl rfl (y_pickf rfl rfl) ?_
  refine vc_end (vq_then (vc_keep [(0, _), (1, _), (2, _), (6, _), (17, _)] ⟨rfl, rfl, rfl, rfl, rfl, trivial⟩ ?_))
  refine vc_iff rfl ?_
  refine vc_exit (vq_then_exit (vq_then_exit (vq_block_exit ?_)))
  refine vq_ret0 (.inr rfl) results25 ?_
  refine ⟨_, rfl, ?_⟩
  refine ⟨rfl, ?_⟩
  first
   | (have hm : many = true := by assumption
      subst hm
      rw [txtSs_split ss d j, ← List.append_assoc]
      exact (st.wrDone (i := 0) rfl).over hb)
   | (obtain rfl : j = ss.length := by omega
      rw [List.take_length] at st
      exact st.wrDone (i := 0) rfl)

end
end Go.Proofs.YtnmhlpnapgojjaaDoor
