/- A part of the proof: contracts of functions and plain laws; each theorem says its own conditions. -/
import Derived.Test.YtnmhlpnapgojjaaGreatDoorTopReadK1
import Derived.Test.YtnmhlpnapgojjaaGreatDoorTopReadK4
import Derived.Test.YtnmhlpnapgojjaaGreatDoorTopReadTryzShelfP
import Derived.Test.YtnmhlpnapgojjaaGreatDoorTopReadK2
import Derived.Test.YtnmhlpnapgojjaaGreatDoorTopReadK3
import Derived.Test.YtnmhlpnapgojjaaGreatDoorTopReadK0
set_option linter.unusedVariables false
set_option linter.unusedSimpArgs false
namespace Go.Proofs.YtnmhlpnapgojjaaGreatDoor
open Go.RowKit Sx LexS _root_.Go.Proofs.Tryz
theorem repeatL_mar : ∀ d, Lib.repeatL [32, 32] d = mar d
 | 0 => rfl
 | d + 1 => by
  show [32, 32] ++ Lib.repeatL [32, 32] d = _
  rw [repeatL_mar d]
  unfold mar
  rw [show 2 * (d + 1) = 2 * d + 2 by omega]
  rfl
theorem repeat_any (d : Nat) (w : World) (hd : d ≤ 1000) : Ret Tryz.prog 95 [str [32, 32], .int .i64 (d : Int)] w fun v w' => v = str (mar d) ∧ Chg [] w w' := by
 have key := Tryz.strings_Repeat ⟨[32, 32].toArray⟩ d w (by omega) (by show 2 * d ≤ _; omega)
 refine Calls.mono key ?_
 rintro e w' ⟨rfl, hb⟩
 refine ⟨_, rfl, ?_, Chg.of_below hb⟩
 show Value.string ⟨(Lib.repeatL [32, 32] d).toArray⟩ = _
 have e := repeatL_mar d
 rw [e]
abbrev strsL (l : List (List UInt8)) : List Value := l.map str
theorem joinC_eq (l : List (List UInt8)) : Lib.join l [44, 32] = joinC l := by
 unfold Lib.join
 match l with
 | [] => rfl
 | [x] => simp [joinC, List.intercalate]
 | x :: y :: r =>
  have ih := joinC_eq (y :: r)
  unfold Lib.join at ih
  simp only [joinC]
  rw [← ih]
  simp [List.intercalate]
theorem joinC_any (l : List (List UInt8)) (oa : Option Addr) (cap base : Nat) (w : World) (ho : w.ownsRow base 9 1 (.slice oa l.length cap) l.length (strsL l)) (hlen : (joinC l).length ≤ 140737488355328) (hl : l.length ≤ 140737488355328) :
    Ret Tryz.prog 94 [.slice oa l.length cap, str [44, 32]] w fun v w' => v = str (joinC l) ∧ Chg [] w w' := by
 rcases l with _ | ⟨x, r⟩
 ·refine Calls.mono (Tryz.strings_Join_none oa cap ⟨[44, 32].toArray⟩ w) ?_
  rintro e w' ⟨rfl, rfl⟩
  exact ⟨_, rfl, rfl, Chg.refl _ _⟩
 ·obtain ⟨g, cap', e, hg⟩ := own_form ho (by simp)
  simp only [Value.slice.injEq] at e
  obtain ⟨rfl, -, rfl⟩ := e
  have hblk := (World.ownsRow.lt ho g (by simp [Value.ownBlock])).2
  have hcap : (x :: r).length ≤ cap := by
   rcases ho.2 with ⟨h, _⟩ | ⟨g', c', cur, h, _, _, h1, _⟩
   ·cases h
   ·simp only [Value.slice.injEq] at h; omega
  have hm : ((x :: r).map fun t => (⟨t.toArray⟩ : ByteArray)).map (·.data.toList) = x :: r := by simp [Function.comp_def]
  have key := Tryz.strings_Join g 0 cap ((x :: r).map fun t => (⟨t.toArray⟩ : ByteArray)) ⟨[44, 32].toArray⟩ w (fun j y hj => by
    rw [Nat.zero_add]
    refine own_cell ho ?_
    rw [List.getElem?_map] at hj ⊢
    cases hq : (x :: r)[j]? with
    | none => rw [hq] at hj; cases hj
    | some q => rw [hq] at hj; cases hj; rfl) hblk (by simpa using hl) (by simpa using hcap) (by rw [hm]; show (Lib.join (x :: r) [44, 32]).length ≤ _; rw [joinC_eq]; exact hlen)
  rw [hm, List.length_map] at key
  refine Calls.mono key ?_
  rintro e w' ⟨rfl, hb⟩
  refine ⟨_, rfl, ?_, Chg.of_below hb⟩
  show Value.string ⟨(Lib.join (x :: r) [44, 32]).toArray⟩ = _
  rw [joinC_eq]
theorem joinC_len (l : List (List UInt8)) (B : Nat) (h : ∀ x ∈ l, x.length ≤ B) : (joinC l).length ≤ l.length * (B + 2) := by
 match l with
 | [] => simp [joinC]
 | [x] => have := h x (by simp); simp [joinC]; omega
 | x :: y :: r =>
  have ih := joinC_len (y :: r) B (fun z hz => h z (.tail _ hz))
  have := h x (by simp)
  simp only [joinC, List.length_append, List.length_cons, List.length_nil, Nat.add_mul] at ih ⊢
  omega
end Go.Proofs.YtnmhlpnapgojjaaGreatDoor


namespace Go.Proofs.YtnmhlpnapgojjaaGreatDoor
open Go.RowKit Sx LexS _root_.Go.Proofs.Tryz
theorem Tryz.info9 : Tryz.prog.info? 9 = some Tryz.t9 := by kernel_rfl
theorem take_map_succ {ds : List Dc} {j : Nat} {x : Dc} (h : ds[j]? = some x) : strsL ((ds.take (j + 1)).map dcT) = strsL ((ds.take j).map dcT) ++ [str (dcT x)] := by
 obtain ⟨hj, e⟩ := List.getElem?_eq_some_iff.1 h
 rw [List.take_succ_eq_append_getElem hj, e]; simp
theorem strs_nth {ps : List (List UInt8)} {j : Nat} {x : List UInt8} (h : ps[j]? = some x) : nth (ps.map str) j = some (str x) := by
 rw [nth_eq, List.getElem?_map, h]; rfl
section
variable {n0 : Nat}

set_option maxHeartbeats 2000000 in
theorem wdecls_any (ds : List Dc) (b : Bool) (hR : ds.all (dcOk b) = true) (hok : OkD ds) (word : List UInt8) (hwd : word.length ≤ 100) (d : Nat) (hd : d ≤ 1000) (oa : Option Addr) (cap : Nat) (bw : Nat) (v : Value) (F : List UInt8) (w : World) (hD : DcRow w (· < n0) oa ds) (hW : Wr 5 n0 80 bw v F w) (hn0 : n0 ≤ w.heap.size) :
    Ret Tryz.prog 39 [.pointer (some ⟨bw, 0, none⟩), .int .i64 (d : Int), str word, .slice oa ds.length cap] w fun r w' => r = .tuple #[] ∧ WrP 5 n0 80 bw v (F ++ dcsT word d ds) w w' := by
 refine ret_of [_, _, _, _] func39 rfl ntmps39 rfl ?_
 have st := St.init w []
 clear st
 obtain ⟨w0, rfl⟩ : ∃ w0, w0 = w := ⟨_, rfl⟩
 have st := St.wrInit hW
 have hn := hok.1
 refine vc_seq (sr ?_)
 refine ym ?_
 refine vy (y_lensl rfl underlying23) ?_
 refine vy (y_eqi rfl rfl) ?_
 refine et (vk5 0 1 2 3 14 ?_)
 refine vif ?_ ?_
 ·intro hc14
  try simp only [dn] at hc14
  refine vc_ret (vq_then_ret ?_)
  refine vq_ret0 (.inl rfl) results39 ?_
  refine ⟨_, rfl, ?_⟩
  refine ⟨rfl, (st.wrDone (i := 0) rfl).eq ?_⟩
  unfold dcsT
  rw [if_pos (by omega), List.append_nil]
 intro hc14
 try simp only [dn] at hc14
 refine kt (vk4 0 1 2 3 (sr ?_))
 refine ya ?_
 refine et (vk5 0 1 2 3 8 (vc_seq (sr ?_)))
 refine ym ?_
 refine vy (y_lensl rfl underlying23) ?_
 refine ym ?_
 refine et (vk7 0 1 2 8 15 16 17 (vc_block ?_))
 refine vc_loop (w0 := w0) (M := (bw :: v.ownBlock.toList)) (fun (y : Nat × Option Addr × Nat) => [(0, .pointer (some ⟨bw, 0, none⟩)), (1, .int .i64 (d : Int)), (2, str word), (8, .slice y.2.1 y.1 y.2.2), (15, .slice oa ds.length cap), (16, .int .i64 (ds.length : Int)), (17, .int .i64 (y.1 : Int))]) (fun y => [.own (.slice y.2.1 y.1 y.2.2) 9 1 y.1 (strsL ((ds.take y.1).map dcT)), wrR (bw :: v.ownBlock.toList) w0.heap.size 5 n0 80 bw v F]) (fun y _ => y.1 ≤ ds.length) (fun y => ds.length - y.1) (0, none, 0) ⟨rfl, rfl, rfl, rfl, rfl, rfl, rfl, trivial⟩ (st.ownNil 9 1) (by simp) ?_
 clear st
 rintro ⟨j, oj, cj⟩ w hj st
 dsimp only at *
 refine sr ?_
 refine vy (y_lss rfl rfl) ?_
 refine et (vk8 0 1 2 8 15 16 17 18 (vc_seq ?_))
 refine vif ?_ ?_
 ·intro hc18
  try simp only [dn] at hc18
  obtain ⟨x, hx⟩ : ∃ x, ds[j]? = some x := ⟨_, List.getElem?_eq_getElem (by omega)⟩
  obtain ⟨gb, go, rfl, hgS, hgl, hg⟩ := DcRow.at hD (by omega)
  have hc := hg j x hx
  have hxo := hok.2 j x hx
  have hxr : dcOk b x = true := List.all_eq_true.1 hR x (List.mem_of_getElem? hx)
  have hxn : x.nm.length ≤ 32 := by unfold dcOk at hxr; simp only [Bool.and_eq_true] at hxr; exact isName_le hxr.1
  have hxs := shw_le x.wd hxo.1
  have htm := take_map_succ hx
  refine kt (vk7 0 1 2 8 15 16 17 (vc_seq (vc_block (sr ?_))))
  refine vy (y_ia (k := j) rfl rfl underlying23 sizeOf63 rfl (by omega)) ?_
  refine vy (y_ldca (dcL x) rfl isAgg63 sizeOf63 rfl (fun i v hi => st.chg.cell (hc i v hi) (hW.notin hgS))) ?_
  refine vc_e (e_al (l := [_, _, _]) st rfl rfl zeroValue63 rfl ?_)
  intro b10 w hb10 st
  refine vc_e (ests st 0 [_, _, _] sizeOf63 ?_)
  intro w st; dsimp only [setNth, wr] at st
  refine et (vk8 0 1 2 8 10 15 16 17 (sr ?_))
  refine vy (y_fa0 rfl underlying63 rfl rfl sizeOf9 rfl) ?_
  refine yl st 0 isAgg9 ?_
  refine ya ?_
  refine et (vk9 0 1 2 8 10 11 15 16 17 ?_)
  refine vc_cut (w0 := w0) (M := (bw :: v.ownBlock.toList)) (fun (_ : Unit) => [(0, .pointer (some ⟨bw, 0, none⟩)), (1, .int .i64 (d : Int)), (2, str word), (8, .slice oj j cj), (11, str (dcT x)), (15, .slice (some ⟨gb, go, none⟩) ds.length cap), (16, .int .i64 (ds.length : Int)), (17, .int .i64 (j : Int))]) (fun _ => [.own (.slice oj j cj) 9 1 j (strsL ((ds.take j).map dcT)), wrR (bw :: v.ownBlock.toList) w0.heap.size 5 n0 80 bw v F]) (fun _ _ => True) ?_ ?_
  ·refine vc_seq ?_
   refine vc_region ?_
   refine yfz 1 underlying63 sizeOf2 ?_
   refine yl st 0 isAgg2 ?_
   refine vy (y_nei rfl rfl) ?_
   refine et (vk10 0 1 2 8 10 11 15 16 17 25 ?_)
   refine vif ?_ ?_
   intro hc25
   try simp only [dn] at hc25
   refine vc_region ?_
   refine ym ?_
   refine yfz 1 underlying63 sizeOf2 ?_
   refine yl st 0 isAgg2 ?_
   refine vc_e (e_call [_] rfl rfl call76 rfl (wprint_any _ _ hxo.1) ?_)
   rintro _ w ⟨rfl, cw⟩
   replace st := st.call0 cw
   iterate 2 refine vy (y_cat rfl rfl (by simp only [List.length_append, List.length_cons, List.length_nil]; omega)) ?_
   refine ya ?_
   refine vc_end ?_
   rotate_left
   intro hc25
   try simp only [dn] at hc25
   refine vc_code_skip ?_
   all_goals
    refine vq_meet () ⟨rfl, rfl, rfl, rfl, by simp only [Sx.put, find, Nat.beq]; unfold dcT; first | rw [if_pos (by omega : x.wd = 0), List.append_nil] | rw [if_neg (by omega : ¬ x.wd = 0)], rfl, rfl, rfl, trivial⟩ (st.dr) ?_
    ·trivial
  clear st
  rintro ⟨⟩ w - st
  refine vc_region ?_
  iterate 2 refine ym ?_
  refine vc_e (e_bs1 (l := [_]) st rfl rfl rfl rfl underlying50 sizeOf9 rfl rfl rfl zeroValue9 ?_)
  intro b34 w hb34 st
  refine vc_e (e_app (bytes := 16) st 1 0 rfl rfl rfl rfl rfl rfl underlying50 Tryz.info9 rfl rfl rfl rfl rfl (by simp) rfl rfl (by unfold maxLen; omega) (by omega) ?_)
  intro oa35 cap35 w st; dsimp only [setNth] at st
  refine ya ?_
  refine vc_end (vq_block (vq_then (vk7 0 1 2 8 15 16 17 (vc_region ?_))))
  refine vy (y_add rfl rfl (by omega : _ = ((j + 1 : Nat) : Int)) (by omega) (by omega)) ?_
  refine ym ?_
  refine vc_end ?_
  refine vq_again (j + 1, oa35, cap35)  ⟨rfl, rfl, rfl, rfl, rfl, rfl, rfl, trivial⟩ (by rw [htm]; exact st.dr) ?_ ?_
  ·dsimp only; omega
  dsimp only; omega
 intro hc18
 try simp only [dn] at hc18
 obtain rfl : j = ds.length := by omega
 rw [List.take_length] at st
 have hjl : (joinC (ds.map dcT)).length ≤ ds.length * 57 := by
  have h := joinC_len (ds.map dcT) 55 (fun z hz => by
    obtain ⟨q, hq, rfl⟩ := List.mem_map.1 hz
    have hqr : dcOk b q = true := List.all_eq_true.1 hR q hq
    have h1 : q.nm.length ≤ 32 := by unfold dcOk at hqr; simp only [Bool.and_eq_true] at hqr; exact isName_le hqr.1
    obtain ⟨i, hi⟩ := List.mem_iff_getElem?.1 hq
    have h2 := shw_le q.wd (hok.2 i q hi).1
    unfold dcT
    split <;> simp <;> omega)
  simpa using h
 refine vc_exit (vq_then_exit (vq_then_exit (vq_block_exit (vq_then (vk4 0 1 2 8 (vc_region ?_))))))
 iterate 4 refine ym ?_
 refine vc_e (e_call [_, _] rfl rfl call94 rfl (by have h := joinC_any (ds.map dcT) oj cj _ _ (by rw [List.length_map]; exact st.res (i := 0) rfl) (by omega) (by rw [List.length_map]; omega); rw [List.length_map] at h; exact h) ?_)
 rintro _ w ⟨rfl, cw⟩
 replace st := st.call0 cw
 refine vc_e (e_bsn (l := [word, [32], joinC (ds.map dcT), [59]].map str) (E := 9) st [(0, _), (1, _), (2, _), (3, _)] rfl rfl rfl (fun w => by simp [Instr.buildSlice, run_underlying underlying50, sizeOf9, zeroValue9, Instr.fill, newRow, newObj, Sem.run, go_sem]) ?_)
 intro b42 w hb42 st
 refine vc_e (e_call [_, _, _] rfl rfl call40 rfl (line_any repeat_any bw _ _ d hd [word, [32], joinC (ds.map dcT), [59]] (by simp) (by simp; omega) b42 _ _ (st.wrGet (i := 2) rfl) (Nat.le_trans hn0 st.chg.size) (fun j x hx => cell_nth (st.res (i := 0) rfl) (strs_nth hx)) (fun hk => apart_nth st.nodup (i := 0) (j := 2) (by decide) rfl rfl _ (.head _) hk)) ?_)
 rintro _ w ⟨rfl, hp⟩
 obtain ⟨v9, st⟩ := st.wr (i := 2) rfl hp
 dsimp only [setNth] at st
 refine vc_end ?_
 refine vq_ret0 (.inr rfl) results39 ?_
 refine ⟨_, rfl, ?_⟩
 refine ⟨rfl, (st.wrDone (i := 2) rfl).eq ?_⟩
 unfold dcsT
 rw [if_neg (by omega)]
 simp
end
end Go.Proofs.YtnmhlpnapgojjaaGreatDoor


namespace Go.Proofs.YtnmhlpnapgojjaaGreatDoor
open Go.RowKit Sx LexS _root_.Go.Proofs.Tryz
theorem txtSs_app : ∀ (a b : List Sm) (d : Nat), txtSs (a ++ b) d = txtSs a d ++ txtSs b d
 | [], b, d => rfl
 | s :: r, b, d => by simp only [List.cons_append, txtSs]; rw [txtSs_app r b d, List.append_assoc]
theorem txtSs_succ {ss : List Sm} {d j : Nat} {s : Sm} (h : ss[j]? = some s) : txtSs (ss.take (j + 1)) d = txtSs (ss.take j) d ++ txtS s d := by
 obtain ⟨hj, e⟩ := List.getElem?_eq_some_iff.1 h
 rw [List.take_succ_eq_append_getElem hj, txtSs_app, e]
 simp [txtSs]
theorem txtSs_split (ss : List Sm) (d j : Nat) : txtSs ss d = txtSs (ss.take j) d ++ txtSs (ss.drop j) d := by
 rw [← txtSs_app, List.take_append_drop]
/-- how a statement's text begins -/
def hdS (s : Sm) : List UInt8 :=
 if s.k = 1 then s.nm ++ [32, 61, 32] ++ txX s.e ++ [59, 10]
 else if s.k = 2 then s.nm ++ [32, 61, 32, 115, 119, 97, 112, 40] ++ s.other ++ [44, 32] ++ txX s.e ++ [41, 59, 10]
 else if s.k = 6 then [112, 114, 105, 110, 116, 32] ++ txX s.e ++ [59, 10]
 else if s.k = 7 then [115, 107, 105, 112, 59, 10]
 else if s.k = 5 then [108, 111, 99, 107, 32] ++ s.nm ++ [32, 123, 10]
 else (if s.k = 4 then [119, 104, 105, 108, 101, 32, 40] else [105, 102, 32, 40]) ++ txX s.e ++ [41, 32, 123, 10]
theorem txtS_flat {s : Sm} {d : Nat} (h : s.k = 1 ∨ s.k = 2 ∨ s.k = 6 ∨ s.k = 7) : txtS s d = mar d ++ hdS s := by
 cases s with
 | mk k nm other e body els a =>
  change k = 1 ∨ k = 2 ∨ k = 6 ∨ k = 7 at h
  unfold txtS hdS
  simp only [Sm.k, Sm.nm, Sm.other, Sm.e]
  rcases h with rfl | rfl | rfl | rfl <;> rfl
theorem txtS_lock {s : Sm} {d : Nat} (h : s.k = 5) : txtS s d = mar d ++ hdS s ++ txtSs s.body (d + 1) ++ mar d ++ [125, 10] := by
 cases s with
 | mk k nm other e body els a =>
  change k = 5 at h
  subst h
  unfold txtS hdS
  simp only [Sm.k, Sm.nm, Sm.other, Sm.e, Sm.body]
  rfl
theorem txtS_cond {s : Sm} {d : Nat} (h : s.k = 3 ∨ s.k = 4) : txtS s d = mar d ++ hdS s ++ txtSs s.body (d + 1) ++ (if 0 < s.els.length then mar d ++ [125, 32, 101, 108, 115, 101, 32, 123, 10] ++ txtSs s.els (d + 1) else []) ++ mar d ++ [125, 10] := by
 cases s with
 | mk k nm other e body els a =>
  change k = 3 ∨ k = 4 at h
  unfold txtS hdS
  simp only [Sm.k, Sm.nm, Sm.other, Sm.e, Sm.body, Sm.els]
  rcases h with rfl | rfl <;> rfl
theorem txX_eq {e : List Ex} {x : Ex} (h : e[0]? = some x) : txX e = txtE x := by
 cases e with
 | nil => simp at h
 | cons y r => simp at h; subst h; rfl
theorem rightX_inv {b : Bool} {e : List Ex} (hb : b = true) (h : rightX b e = true) : ∃ x, e[0]? = some x ∧ e.length = 1 ∧ rightE x 0 = true := by
 subst hb
 by_cases h1 : e.length = 1
 ·obtain ⟨x, hx⟩ := get0 h1 (by omega)
  rw [rightX_t h1 hx] at h
  exact ⟨x, hx, h1, h⟩
 ·rw [rightX_n h1] at h; cases h
end Go.Proofs.YtnmhlpnapgojjaaGreatDoor


namespace Go.Proofs.YtnmhlpnapgojjaaGreatDoor
open Go.RowKit Sx LexS _root_.Go.Proofs.Tryz
section
variable {n0 : Nat}

end
end Go.Proofs.YtnmhlpnapgojjaaGreatDoor


namespace Go.Proofs.YtnmhlpnapgojjaaGreatDoor
open Go.RowKit Sx LexS _root_.Go.Proofs.Tryz
section
variable {n0 : Nat}

end
end Go.Proofs.YtnmhlpnapgojjaaGreatDoor


namespace Go.Proofs.YtnmhlpnapgojjaaGreatDoor
open Go.RowKit Sx LexS _root_.Go.Proofs.Tryz
section
variable {S : Nat → Prop}

theorem kidx_any (x : Ex) (hrec : ∀ (d : Nat), d ≤ 64 → ∀ (l : List Value) (w : World), ExV w S x l → Sig w → Ret Tryz.prog 46 [.agg l.toArray, .int .i64 (d : Int)] w fun v w' => v = .bool (rightE x d) ∧ Chg [] w w') (d : Nat) (hd : d ≤ 64) (b : Bool) (o : Option Addr) (c : Nat) (w : World)
    (hV : ExV w S x (exL x o c)) (hs : Sig w) (b3 : Nat) (hc : w.cell? ⟨b3, 0, none⟩ = some (.int .i64 (d : Int))) : Ret Tryz.prog 103 [.agg (exL x o c).toArray, .bool b, .pointer (some ⟨b3, 0, none⟩)] w fun v w' => v = .bool (rightE x (if b = true then d + 1 else d)) ∧ Chg [] w w' := by
 refine ret_of [_, _, _] func103 rfl ntmps103 rfl ?_
 have st := St.init w []
 refine sr ?_
 refine vc_e (e_bx (l := [_, _, _, _, _, _]) st rfl rfl rfl rfl ?_)
 intro b3 w hb3 st
 refine ya ?_
 refine et (vk3 1 2 3 (vc_seq (sr ?_)))
 refine ym ?_
 refine et (vk3 2 3 6 ?_)
 refine vif ?_ ?_
 ·intro hc6
  try simp only [dn] at hc6
  refine sr ?_
  refine vy (y_ldc rfl isAgg3 (st.chg.cell hc (by simp))) ?_
  refine vy (y_lss rfl rfl) ?_
  refine vmb ?_ ?_
  ·intro hg9
   try simp only [dn] at hg9
   refine yla st 0 [_, _, _, _, _, _] isAgg42 sizeOf42 ?_
   refine vy (y_ldc rfl isAgg3 (st.chg.cell hc (by simp))) ?_
   refine vy (y_add rfl rfl (by omega : _ = ((d + 1 : Nat) : Int)) (by omega) (by omega)) ?_
   refine vc_e (e_call [_, _] rfl rfl call46 rfl (hrec (d + 1) (by omega) _ _ (hV.kept st.sm) (hs.kept st.chg)) ?_)
   rintro _ w ⟨rfl, cw⟩
   replace st := st.call0 cw
   refine ypt ?_
   refine ya ?_
   refine et (vk1 5 (vc_ret (vq_then_ret ?_)))
   refine vr1 st results103 ?_
   refine ⟨?_, st.chg⟩
   rw [if_pos hc6]
  intro hg9
  try simp only [dn] at hg9
  iterate 4 refine vsk ?_
  refine ypf ?_
  refine ya ?_
  refine et (vk1 5 (vc_ret (vq_then_ret ?_)))
  refine vr1 st results103 ?_
  refine ⟨?_, st.chg⟩
  rw [if_pos hc6, rightE_big (by omega)]
 intro hc6
 try simp only [dn] at hc6
 refine kt (vk2 2 3 (sr ?_))
 refine yla st 0 [_, _, _, _, _, _] isAgg42 sizeOf42 ?_
 refine vy (y_ldc rfl isAgg3 (st.chg.cell hc (by simp))) ?_
 refine vc_e (e_call [_, _] rfl rfl call46 rfl (hrec d hd _ _ (hV.kept st.sm) (hs.kept st.chg)) ?_)
 rintro _ w ⟨rfl, cw⟩
 replace st := st.call0 cw
 refine ya ?_
 refine et (vk1 5 (vc_ret ?_))
 refine vr1 st results103 ?_
 refine ⟨?_, st.chg⟩
 rw [if_neg (by rw [hc6]; simp)]
theorem op_one {k : Int} : oneOp k = true ↔ k = 17 ∨ k = 18 := by unfold oneOp; simp

set_option maxHeartbeats 2000000 in
theorem expr_any : ∀ (n : Nat) (e : Ex), szo e = n → ∀ (d : Nat), d ≤ 64 → ∀ (l : List Value) (w : World), ExV w S e l → Sig w → Ret Tryz.prog 46 [.agg l.toArray, .int .i64 (d : Int)] w fun v w' => v = .bool (rightE e d) ∧ Chg [] w w' := by
 intro n
 refine Nat.strongRecOn n fun n ih => ?_
 intro e hn d hd l w hV hs
 subst hn
 obtain ⟨oa, cap, rfl, hr⟩ := ExV.inv hV
 refine ret_of [_, _] func46 rfl ntmps46 rfl ?_
 have st := St.init w []
 refine sr ?_
 refine vc_e (e_bx (l := [_, _, _, _, _, _]) st rfl rfl rfl rfl ?_)
 intro b2 w hb2 st
 refine vc_e (e_bx (l := [_]) st rfl rfl rfl rfl ?_)
 intro b3 w hb3 st
 refine ya ?_
 refine et (vk2 2 3 (sr ?_))
 refine vy (y_mf [] [_] rfl rfl) ?_
 refine ya ?_
 refine et (vk3 2 3 5 (vc_seq (sr ?_)))
 refine vy (y_fa0 rfl underlying42 rfl rfl sizeOf38 rfl) ?_
 refine yl st 1 isAgg38 ?_
 refine et (vk4 2 3 5 12 (vc_block (sr ?_)))
 refine vy (y_eqi rfl rfl) ?_
 refine ya ?_
 refine et (vk5 2 3 5 12 13 ?_)
 refine vif ?_ ?_
 ·intro hc13
  try simp only [dn] at hc13
  refine sr ?_
  refine yfz 2 underlying42 sizeOf2 ?_
  refine yl st 1 isAgg2 ?_
  refine vy (y_geq rfl rfl) ?_
  refine vmb ?_ ?_
  focus
   intro hg18
   try simp only [dn] at hg18
   refine yfz 1 underlying42 sizeOf39 ?_
   refine yl st 1 isAgg39 ?_
   refine vy (y_eqi rfl rfl) ?_
   refine ypt ?_
   refine vmb ?_ ?_
   focus
    intro hg23
    try simp only [dn] at hg23
    refine yfz 3 underlying42 sizeOf9 ?_
    refine yl st 1 isAgg9 ?_
    refine vy (y_eqs rfl rfl) ?_
    refine ypt ?_
    refine vmb ?_ ?_
    intro hg28
    try simp only [dn] at hg28
    refine yfz 4 underlying42 sizeOf40 ?_
    refine yl st 1 isAgg40 ?_
    refine vy (y_lensl rfl underlying40) ?_
    refine vy (y_eqi rfl rfl) ?_
    refine ypt ?_
    rotate_left
    intro hg28
    try simp only [dn] at hg28
    iterate 4 refine vsk ?_
    refine ypf ?_
   rotate_left 2
   intro hg23
   try simp only [dn] at hg23
   iterate 3 refine vsk ?_
   refine ypf ?_
   refine ym ?_
   iterate 4 refine vsk ?_
   refine ypf ?_
  rotate_left 3
  intro hg18
  try simp only [dn] at hg18
  iterate 3 refine vsk ?_
  refine ypf ?_
  refine ym ?_
  iterate 3 refine vsk ?_
  refine ypf ?_
  refine ym ?_
  iterate 4 refine vsk ?_
  refine ypf ?_
  all_goals
   refine ya ?_
   refine et (vk1 4 (vc_ret (vq_block_ret (vq_then_ret ?_))))
   refine vr1 st results46 ?_
   refine ⟨?_, st.chg⟩
   show Value.bool _ = Value.bool _
   congr 1
   clear st
   symm
   (rw [rightE_1 (e := e) (by assumption) hd]; clear hV hr hs ih; rw [Bool.eq_iff_iff]; simp_all <;> omega)
 intro hc13
 try simp only [dn] at hc13
 refine sr ?_
 refine vy (y_eqi rfl rfl) ?_
 refine ya ?_
 refine et (vk5 2 3 5 12 34 ?_)
 refine vif ?_ ?_
 ·intro hc34
  try simp only [dn] at hc34
  refine sr ?_
  refine yfz 3 underlying42 sizeOf9 ?_
  refine yl st 1 isAgg9 ?_
  refine vc_e (e_call [_] rfl rfl call52 rfl (name_any _ _) ?_)
  rintro _ _ ⟨rfl, rfl⟩
  refine vmb ?_ ?_
  focus
   intro hg39
   try simp only [dn] at hg39
   refine yfz 1 underlying42 sizeOf39 ?_
   refine yl st 1 isAgg39 ?_
   refine vy (y_eqi rfl rfl) ?_
   refine ypt ?_
   refine vmb ?_ ?_
   focus
    intro hg44
    try simp only [dn] at hg44
    refine yfz 2 underlying42 sizeOf2 ?_
    refine yl st 1 isAgg2 ?_
    refine vy (y_eqi rfl rfl) ?_
    refine ypt ?_
    refine vmb ?_ ?_
    intro hg49
    try simp only [dn] at hg49
    refine yfz 4 underlying42 sizeOf40 ?_
    refine yl st 1 isAgg40 ?_
    refine vy (y_lensl rfl underlying40) ?_
    refine vy (y_eqi rfl rfl) ?_
    refine ypt ?_
    rotate_left
    intro hg49
    try simp only [dn] at hg49
    iterate 4 refine vsk ?_
    refine ypf ?_
   rotate_left 2
   intro hg44
   try simp only [dn] at hg44
   iterate 3 refine vsk ?_
   refine ypf ?_
   refine ym ?_
   iterate 4 refine vsk ?_
   refine ypf ?_
  rotate_left 3
  intro hg39
  try simp only [dn] at hg39
  iterate 3 refine vsk ?_
  refine ypf ?_
  refine ym ?_
  iterate 3 refine vsk ?_
  refine ypf ?_
  refine ym ?_
  iterate 4 refine vsk ?_
  refine ypf ?_
  all_goals
   refine ya ?_
   refine et (vk1 4 (vc_ret (vq_block_ret (vq_then_ret ?_))))
   refine vr1 st results46 ?_
   refine ⟨?_, st.chg⟩
   show Value.bool _ = Value.bool _
   congr 1
   clear st
   symm
   (rw [rightE_2 (e := e) (by assumption) hd]; clear hV hr hs ih; rw [Bool.eq_iff_iff]; simp_all <;> omega)
 intro hc34
 try simp only [dn] at hc34
 refine sr ?_
 refine vy (y_eqi rfl rfl) ?_
 refine ya ?_
 refine et (vk5 2 3 5 12 55 ?_)
 refine vif ?_ ?_
 ·intro hc55
  try simp only [dn] at hc55
  refine vc_seq (sr ?_)
  refine yfz 1 underlying42 sizeOf39 ?_
  refine yl st 1 isAgg39 ?_
  refine vy (y_nei rfl rfl) ?_
  refine vmb ?_ ?_
  focus
   intro hg60
   try simp only [dn] at hg60
   refine yfz 1 underlying42 sizeOf39 ?_
   refine yl st 1 isAgg39 ?_
   refine vy (y_nei rfl rfl) ?_
   refine ypt ?_
   refine vmb ?_ ?_
   intro hg65
   try simp only [dn] at hg65
   iterate 4 refine vsk ?_
   refine ypt ?_
   refine ym ?_
   iterate 3 refine vsk ?_
   refine ypt ?_
   refine ym ?_
   iterate 3 refine vsk ?_
   refine ypt ?_
   refine ym ?_
   iterate 2 refine vsk ?_
   refine ypt ?_
   refine et (vk3 2 3 84 ?_)
   refine vc_ift rfl ?_
   refine sr ?_
   refine ya ?_
   refine et (vk1 4 (vc_ret (vq_then_ret ?_)))
   rotate_left
   focus
    intro hg65
    try simp only [dn] at hg65
    refine yfz 4 underlying42 sizeOf40 ?_
    refine yl st 1 isAgg40 ?_
    refine vy (y_lensl rfl underlying40) ?_
    refine vy (y_nei rfl rfl) ?_
    refine ypf ?_
    refine vmb ?_ ?_
    intro hg71
    try simp only [dn] at hg71
    iterate 3 refine vsk ?_
    refine ypt ?_
    refine ym ?_
    iterate 3 refine vsk ?_
    refine ypt ?_
    refine ym ?_
    iterate 2 refine vsk ?_
    refine ypt ?_
    refine et (vk3 2 3 84 ?_)
    refine vc_ift rfl ?_
    refine sr ?_
    refine ya ?_
    refine et (vk1 4 (vc_ret (vq_then_ret ?_)))
    rotate_left
    focus
     intro hg71
     try simp only [dn] at hg71
     refine yfz 2 underlying42 sizeOf2 ?_
     refine yl st 1 isAgg2 ?_
     refine vy (y_nei rfl rfl) ?_
     refine ypf ?_
     refine vmb ?_ ?_
     intro hg76
     try simp only [dn] at hg76
     iterate 3 refine vsk ?_
     refine ypt ?_
     refine ym ?_
     iterate 2 refine vsk ?_
     refine ypt ?_
     refine et (vk3 2 3 84 ?_)
     refine vc_ift rfl ?_
     refine sr ?_
     refine ya ?_
     refine et (vk1 4 (vc_ret (vq_then_ret ?_)))
     rotate_left
     focus
      intro hg76
      try simp only [dn] at hg76
      refine yfz 3 underlying42 sizeOf9 ?_
      refine yl st 1 isAgg9 ?_
      refine vy (y_nes rfl rfl) ?_
      refine ypf ?_
      refine vmb ?_ ?_
      intro hg81
      try simp only [dn] at hg81
      iterate 2 refine vsk ?_
      refine ypt ?_
      refine et (vk3 2 3 84 ?_)
      refine vc_ift rfl ?_
      refine sr ?_
      refine ya ?_
      refine et (vk1 4 (vc_ret (vq_then_ret ?_)))
      rotate_left
      focus
       intro hg81
       try simp only [dn] at hg81
       refine yl st 0 isAgg3 ?_
       refine vy (y_geq rfl rfl) ?_
       refine ypf ?_
       refine et (vk3 2 3 84 ?_)
       refine vif ?_ ?_
       intro hc84
       try simp only [dn] at hc84
       refine sr ?_
       refine ya ?_
       refine et (vk1 4 (vc_ret (vq_then_ret ?_)))
       rotate_left
       focus
        intro hc84
        try simp only [dn] at hc84
        obtain ⟨x, hx⟩ := get0 (l := e.kids) (n := e.kids.length) rfl (by omega)
        obtain ⟨gb, go, rfl, hgS, hgl, hg⟩ := ExRow.at hr (by omega)
        obtain ⟨o0, c0, hV0, hr0, hc0⟩ := hg 0 x hx
        refine kt (vk2 2 3 (sr ?_))
        refine yfz 4 underlying42 sizeOf40 ?_
        refine yl st 1 isAgg40 ?_
        refine vy (y_ia (k := 0) rfl rfl underlying40 sizeOf42 rfl (by omega)) ?_
        refine vy (y_ldca (exL x o0 c0) rfl isAgg42 sizeOf42 rfl (fun i v hi => st.chg.cell (hc0 i v hi) (by simp))) ?_
        refine vc_e (e_al (l := [_, _, _, _, _, _]) st rfl rfl zeroValue42 rfl ?_)
        intro b6 w hb6 st
        refine vc_e (ests st 0 [_, _, _, _, _, _] sizeOf42 ?_)
        intro w st; dsimp only [setNth, wr] at st
        refine et (vk2 3 6 (vc_seq (sr ?_)))
        refine vy (y_fa0 rfl underlying42 rfl rfl sizeOf38 rfl) ?_
        refine yl st 0 isAgg38 ?_
        refine vy (y_eqi rfl rfl) ?_
        refine et (vk3 3 6 91 ?_)
        refine vif ?_ ?_
        focus
         intro hc91
         try simp only [dn] at hc91
         refine sr ?_
         refine yl st 1 isAgg3 ?_
         refine vy (y_add rfl rfl (by omega : _ = ((d + 1 : Nat) : Int)) (by omega) (by omega)) ?_
         refine vy (y_lss rfl rfl) ?_
         refine vmb ?_ ?_
         intro hg95
         try simp only [dn] at hg95
         refine yla st 0 [_, _, _, _, _, _] isAgg42 sizeOf42 ?_
         refine yl st 1 isAgg3 ?_
         refine vy (y_add rfl rfl (by omega : _ = ((d + 2 : Nat) : Int)) (by omega) (by omega)) ?_
         refine vc_e (e_call [_, _] rfl rfl call46 rfl (ih (szo x) (by have := mem_size hx; have := szo_kids e; omega) x rfl (d + 2) (by omega) _ _ (hV0.kept st.sm) (hs.kept st.chg)) ?_)
         rintro _ w ⟨rfl, cw⟩
         replace st := st.call0 cw
         refine ypt ?_
         rotate_left
         intro hg95
         try simp only [dn] at hg95
         iterate 4 refine vsk ?_
         refine ypf ?_
         all_goals
          refine ya ?_
          refine et (vk1 4 (vc_ret (vq_then_ret ?_)))
        rotate_left 2
        intro hc91
        try simp only [dn] at hc91
        refine kt (vk2 3 6 (sr ?_))
        refine yla st 0 [_, _, _, _, _, _] isAgg42 sizeOf42 ?_
        refine yl st 1 isAgg3 ?_
        refine vy (y_add rfl rfl (by omega : _ = ((d + 1 : Nat) : Int)) (by omega) (by omega)) ?_
        refine vc_e (e_call [_, _] rfl rfl call46 rfl (ih (szo x) (by have := mem_size hx; have := szo_kids e; omega) x rfl (d + 1) (by omega) _ _ (hV0.kept st.sm) (hs.kept st.chg)) ?_)
        rintro _ w ⟨rfl, cw⟩
        replace st := st.call0 cw
        refine ya ?_
        refine et (vk1 4 (vc_ret ?_))
  rotate_left 8
  focus
   intro hg60
   try simp only [dn] at hg60
   iterate 3 refine vsk ?_
   refine ypf ?_
   refine ym ?_
   refine yfz 4 underlying42 sizeOf40 ?_
   refine yl st 1 isAgg40 ?_
   refine vy (y_lensl rfl underlying40) ?_
   refine vy (y_nei rfl rfl) ?_
   refine ypf ?_
   refine vmb ?_ ?_
   intro hg71
   try simp only [dn] at hg71
   iterate 3 refine vsk ?_
   refine ypt ?_
   refine ym ?_
   iterate 3 refine vsk ?_
   refine ypt ?_
   refine ym ?_
   iterate 2 refine vsk ?_
   refine ypt ?_
   refine et (vk3 2 3 84 ?_)
   refine vc_ift rfl ?_
   refine sr ?_
   refine ya ?_
   refine et (vk1 4 (vc_ret (vq_then_ret ?_)))
   rotate_left
   focus
    intro hg71
    try simp only [dn] at hg71
    refine yfz 2 underlying42 sizeOf2 ?_
    refine yl st 1 isAgg2 ?_
    refine vy (y_nei rfl rfl) ?_
    refine ypf ?_
    refine vmb ?_ ?_
    intro hg76
    try simp only [dn] at hg76
    iterate 3 refine vsk ?_
    refine ypt ?_
    refine ym ?_
    iterate 2 refine vsk ?_
    refine ypt ?_
    refine et (vk3 2 3 84 ?_)
    refine vc_ift rfl ?_
    refine sr ?_
    refine ya ?_
    refine et (vk1 4 (vc_ret (vq_then_ret ?_)))
    rotate_left
    focus
     intro hg76
     try simp only [dn] at hg76
     refine yfz 3 underlying42 sizeOf9 ?_
     refine yl st 1 isAgg9 ?_
     refine vy (y_nes rfl rfl) ?_
     refine ypf ?_
     refine vmb ?_ ?_
     intro hg81
     try simp only [dn] at hg81
     iterate 2 refine vsk ?_
     refine ypt ?_
     refine et (vk3 2 3 84 ?_)
     refine vc_ift rfl ?_
     refine sr ?_
     refine ya ?_
     refine et (vk1 4 (vc_ret (vq_then_ret ?_)))
     rotate_left
     focus
      intro hg81
      try simp only [dn] at hg81
      refine yl st 0 isAgg3 ?_
      refine vy (y_geq rfl rfl) ?_
      refine ypf ?_
      refine et (vk3 2 3 84 ?_)
      refine vif ?_ ?_
      intro hc84
      try simp only [dn] at hc84
      refine sr ?_
      refine ya ?_
      refine et (vk1 4 (vc_ret (vq_then_ret ?_)))
      rotate_left
      focus
       intro hc84
       try simp only [dn] at hc84
       obtain ⟨x, hx⟩ := get0 (l := e.kids) (n := e.kids.length) rfl (by omega)
       obtain ⟨gb, go, rfl, hgS, hgl, hg⟩ := ExRow.at hr (by omega)
       obtain ⟨o0, c0, hV0, hr0, hc0⟩ := hg 0 x hx
       refine kt (vk2 2 3 (sr ?_))
       refine yfz 4 underlying42 sizeOf40 ?_
       refine yl st 1 isAgg40 ?_
       refine vy (y_ia (k := 0) rfl rfl underlying40 sizeOf42 rfl (by omega)) ?_
       refine vy (y_ldca (exL x o0 c0) rfl isAgg42 sizeOf42 rfl (fun i v hi => st.chg.cell (hc0 i v hi) (by simp))) ?_
       refine vc_e (e_al (l := [_, _, _, _, _, _]) st rfl rfl zeroValue42 rfl ?_)
       intro b6 w hb6 st
       refine vc_e (ests st 0 [_, _, _, _, _, _] sizeOf42 ?_)
       intro w st; dsimp only [setNth, wr] at st
       refine et (vk2 3 6 (vc_seq (sr ?_)))
       refine vy (y_fa0 rfl underlying42 rfl rfl sizeOf38 rfl) ?_
       refine yl st 0 isAgg38 ?_
       refine vy (y_eqi rfl rfl) ?_
       refine et (vk3 3 6 91 ?_)
       refine vif ?_ ?_
       focus
        intro hc91
        try simp only [dn] at hc91
        refine sr ?_
        refine yl st 1 isAgg3 ?_
        refine vy (y_add rfl rfl (by omega : _ = ((d + 1 : Nat) : Int)) (by omega) (by omega)) ?_
        refine vy (y_lss rfl rfl) ?_
        refine vmb ?_ ?_
        intro hg95
        try simp only [dn] at hg95
        refine yla st 0 [_, _, _, _, _, _] isAgg42 sizeOf42 ?_
        refine yl st 1 isAgg3 ?_
        refine vy (y_add rfl rfl (by omega : _ = ((d + 2 : Nat) : Int)) (by omega) (by omega)) ?_
        refine vc_e (e_call [_, _] rfl rfl call46 rfl (ih (szo x) (by have := mem_size hx; have := szo_kids e; omega) x rfl (d + 2) (by omega) _ _ (hV0.kept st.sm) (hs.kept st.chg)) ?_)
        rintro _ w ⟨rfl, cw⟩
        replace st := st.call0 cw
        refine ypt ?_
        rotate_left
        intro hg95
        try simp only [dn] at hg95
        iterate 4 refine vsk ?_
        refine ypf ?_
        all_goals
         refine ya ?_
         refine et (vk1 4 (vc_ret (vq_then_ret ?_)))
       rotate_left 2
       intro hc91
       try simp only [dn] at hc91
       refine kt (vk2 3 6 (sr ?_))
       refine yla st 0 [_, _, _, _, _, _] isAgg42 sizeOf42 ?_
       refine yl st 1 isAgg3 ?_
       refine vy (y_add rfl rfl (by omega : _ = ((d + 1 : Nat) : Int)) (by omega) (by omega)) ?_
       refine vc_e (e_call [_, _] rfl rfl call46 rfl (ih (szo x) (by have := mem_size hx; have := szo_kids e; omega) x rfl (d + 1) (by omega) _ _ (hV0.kept st.sm) (hs.kept st.chg)) ?_)
       rintro _ w ⟨rfl, cw⟩
       replace st := st.call0 cw
       refine ya ?_
       refine et (vk1 4 (vc_ret ?_))
  all_goals
   refine vq_block_ret (vq_then_ret ?_)
   refine vr1 st results46 ?_
   refine ⟨?_, st.chg⟩
   show Value.bool _ = Value.bool _
   congr 1
   clear st
   symm
   first
    | exact rightE_3n (e := e) (by assumption) (by first | exact .inl (by omega) | exact .inr (.inr (.inl (by assumption))) | exact .inr (.inr (.inr (by assumption))) | exact .inr (.inl (by simp [oneOp]; omega)))
    | exact rightE_3d (e := e) (by assumption) (by omega)
    | (rw [rightE_3 (e := e) (by assumption) hd (one_form (by omega) hx), op_one.2 (by omega)]; first | rw [if_pos (by assumption)] | rw [if_neg (by assumption)]
       first | (rw [rightE_big (e := x) (by omega)]; simp) | (clear hV hr hs ih hg hc0 hV0 hr0; simp_all))
 intro hc55
 try simp only [dn] at hc55
 refine sr ?_
 refine vy (y_eqi rfl rfl) ?_
 refine ya ?_
 refine et (vk3 2 5 105 ?_)
 refine vif ?_ ?_
 ·intro hc105
  try simp only [dn] at hc105
  refine vc_seq (sr ?_)
  refine yfz 1 underlying42 sizeOf39 ?_
  refine yl st 1 isAgg39 ?_
  refine vc_e (e_call [_] rfl rfl call104 rfl (two_any _ _) ?_)
  rintro _ _ ⟨rfl, rfl⟩
  refine vy (y_not rfl) ?_
  refine vmb ?_ ?_
  ·intro hg111
   try simp only [dn] at hg111
   iterate 4 refine vsk ?_
   refine ypt ?_
   refine ym ?_
   iterate 3 refine vsk ?_
   refine ypt ?_
   refine ym ?_
   iterate 3 refine vsk ?_
   refine ypt ?_
   refine et (vk3 2 5 126 ?_)
   refine vc_ift rfl ?_
   refine sr ?_
   refine ya ?_
   refine et (vk1 4 (vc_ret (vq_then_ret (vq_block_ret (vq_then_ret ?_)))))
   refine vr1 st results46 ?_
   refine ⟨?_, st.chg⟩
   show Value.bool _ = Value.bool _
   congr 1
   clear st
   symm
   exact rightE_4n (e := e) (by assumption) (by exact .inr (.inl (by assumption)))
  intro hg111
  try simp only [dn] at hg111
  refine yfz 4 underlying42 sizeOf40 ?_
  refine yl st 1 isAgg40 ?_
  refine vy (y_lensl rfl underlying40) ?_
  refine vy (y_nei rfl rfl) ?_
  refine ypf ?_
  refine vmb ?_ ?_
  ·intro hg117
   try simp only [dn] at hg117
   iterate 3 refine vsk ?_
   refine ypt ?_
   refine ym ?_
   iterate 3 refine vsk ?_
   refine ypt ?_
   refine et (vk3 2 5 126 ?_)
   refine vc_ift rfl ?_
   refine sr ?_
   refine ya ?_
   refine et (vk1 4 (vc_ret (vq_then_ret (vq_block_ret (vq_then_ret ?_)))))
   refine vr1 st results46 ?_
   refine ⟨?_, st.chg⟩
   show Value.bool _ = Value.bool _
   congr 1
   clear st
   symm
   exact rightE_4n (e := e) (by assumption) (by exact .inl (by omega))
  intro hg117
  try simp only [dn] at hg117
  refine yfz 2 underlying42 sizeOf2 ?_
  refine yl st 1 isAgg2 ?_
  refine vy (y_nei rfl rfl) ?_
  refine ypf ?_
  refine vmb ?_ ?_
  ·intro hg122
   try simp only [dn] at hg122
   iterate 3 refine vsk ?_
   refine ypt ?_
   refine et (vk3 2 5 126 ?_)
   refine vc_ift rfl ?_
   refine sr ?_
   refine ya ?_
   refine et (vk1 4 (vc_ret (vq_then_ret (vq_block_ret (vq_then_ret ?_)))))
   refine vr1 st results46 ?_
   refine ⟨?_, st.chg⟩
   show Value.bool _ = Value.bool _
   congr 1
   clear st
   symm
   exact rightE_4n (e := e) (by assumption) (by exact .inr (.inr (.inl (by assumption))))
  intro hg122
  try simp only [dn] at hg122
  refine yfz 3 underlying42 sizeOf9 ?_
  refine yl st 1 isAgg9 ?_
  refine vy (y_nes rfl rfl) ?_
  refine ypf ?_
  refine et (vk3 2 5 126 ?_)
  refine vif ?_ ?_
  ·intro hc126
   try simp only [dn] at hc126
   refine sr ?_
   refine ya ?_
   refine et (vk1 4 (vc_ret (vq_then_ret (vq_block_ret (vq_then_ret ?_)))))
   refine vr1 st results46 ?_
   refine ⟨?_, st.chg⟩
   show Value.bool _ = Value.bool _
   congr 1
   clear st
   symm
   exact rightE_4n (e := e) (by assumption) (by exact .inr (.inr (.inr (by assumption))))
  intro hc126
  try simp only [dn] at hc126
  have hk2 : e.kids.length = 2 := by omega
  obtain ⟨x, hx⟩ := get0 hk2 (by omega)
  obtain ⟨y, hy⟩ := get1 hk2
  obtain ⟨gb, go, rfl, hgS, hgl, hg⟩ := ExRow.at hr (by omega)
  obtain ⟨o0, c0, hV0, hr0, hc0⟩ := hg 0 x hx
  obtain ⟨o1, c1, hV1, hr1, hc1⟩ := hg 1 y hy
  refine kt (vk2 2 5 (sr ?_))
  refine yfz 1 underlying42 sizeOf39 ?_
  refine yl st 1 isAgg39 ?_
  refine vc_e (e_call [_] rfl rfl call105 rfl (level_any _ _ (hs.kept st.chg)) ?_)
  rintro _ _ ⟨rfl, rfl⟩
  refine ya ?_
  refine et (vk3 2 5 7 (vc_seq ?_))
  refine ddr0 Tryz.mixed (.take 0 (.take 1 (.take 2 (.take 3 (.take 4 (.take 5 (.take 6 (.take 7 (.two 8 9 (.one 9 (.one 10 (.one 11 .done))) (.one 8 (.one 10 (.one 11 .done)))))))))))) st ?_
  clear st; intro w st hS
  refine dfz hS 4 underlying42 sizeOf40 ?_
  refine dld hS 1 isAgg40 ?_
  refine vd_take rfl rfl rfl hS (fun w st => y_ia (k := 0) rfl rfl underlying40 sizeOf42 rfl (by omega)) ?_
  refine vd_take rfl rfl rfl hS (fun w st => y_ldca (exL x o0 c0) rfl isAgg42 sizeOf42 rfl (fun i v hi => st.chg.cell (hc0 i v hi) (by simp))) ?_
  refine dfz hS 4 underlying42 sizeOf40 ?_
  refine dld hS 1 isAgg40 ?_
  refine vd_take rfl rfl rfl hS (fun w st => y_ia (k := 1) rfl rfl underlying40 sizeOf42 rfl (by omega)) ?_
  refine vd_take rfl rfl rfl hS (fun w st => y_ldca (exL y o1 c1) rfl isAgg42 sizeOf42 rfl (fun i v hi => st.chg.cell (hc1 i v hi) (by simp))) ?_
  refine vd_two rfl rfl ?_ ?_
  refine (e_al (l := [_, _, _, _, _, _]) st rfl rfl zeroValue42 rfl ?_)
  intro b8 w hb8 st
  refine vd_next st.dr ?_; intro hS
  refine vd_do rfl (e_al (l := [_, _, _, _, _, _]) st rfl rfl zeroValue42 rfl ?_)
  intro b9 w hb9 st
  rotate_left
  refine (e_al (l := [_, _, _, _, _, _]) st rfl rfl zeroValue42 rfl ?_)
  intro b9 w hb9 st
  refine vd_next st.dr ?_; intro hS
  refine vd_do rfl (e_al (l := [_, _, _, _, _, _]) st rfl rfl zeroValue42 rfl ?_)
  intro b8 w hb8 st
  all_goals
   refine vd_next st.dr ?_; intro hS
   first
   | refine vd_do rfl (ests st 0 [_, _, _, _, _, _] sizeOf42 ?_)
   | refine vd_do rfl (ests st 1 [_, _, _, _, _, _] sizeOf42 ?_)
   intro w st; dsimp only [setNth, wr] at st
   refine vd_next st.dr ?_; intro hS
   first
   | refine vd_do rfl (ests st 0 [_, _, _, _, _, _] sizeOf42 ?_)
   | refine vd_do rfl (ests st 1 [_, _, _, _, _, _] sizeOf42 ?_)
   intro w st; dsimp only [setNth, wr] at st
   refine vd_next st.dr ?_; intro hS
   refine vd_end (vq_then (vk4 5 7 8 9 (vc_seq ?_)))
   refine vdr0 Tryz.mixed [Yt 0, Yt 1, Yt 2, Yt 3, Yt 4, Yt 5, Yt 6, Yt 7, Yt 9, Nt 8, Yt 10, Yt 11, Nt 12, Yt 13, Yt 14, Yt 15, Yt 16, Yt 17, Yt 18, Yt 19, Yt 20, Yt 21, Yt 23, Nt 22, Yt 24, Yt 25, Nt 26, Yt 27, Yt 28] st ?_
   clear st; intro w st hS
   refine pm hS ?_
   refine vp_take rfl rfl rfl hS (fun w st => (by first | exact y_lda (vs := [_, _, _, _, _, _]) st 0 rfl isAgg42 sizeOf42 rfl rfl | exact y_lda (vs := [_, _, _, _, _, _]) st 1 rfl isAgg42 sizeOf42 rfl rfl)) ?_
   refine pf0 hS underlying42 sizeOf38 ?_
   refine vp_take rfl rfl rfl hS (fun w st => (by first | exact y_ld st 0 rfl isAgg38 rfl rfl | exact y_ld st 1 rfl isAgg38 rfl rfl)) ?_
   refine vp_take rfl rfl rfl hS (fun w st => y_eqi rfl rfl) ?_
   refine vp_part rfl rfl rfl hS rfl ?_ ?_
   intro hg143
   try simp only [dn] at hg143
   refine pfz hS 1 underlying42 sizeOf39 ?_
   refine vp_take rfl rfl rfl hS (fun w st => (by first | exact y_ld st 0 rfl isAgg39 rfl rfl | exact y_ld st 1 rfl isAgg39 rfl rfl)) ?_
   refine pm hS ?_
   refine vp_do rfl (e_call [_] rfl rfl call105 rfl (level_any _ _ (hs.kept st.chg)) ?_)
   rintro _ _ ⟨rfl, rfl⟩
   refine vp_next (by exact st) ?_; intro hS
   refine vp_take rfl rfl rfl hS (fun w st => y_lss rfl rfl) ?_
   refine vp_take rfl rfl rfl hS (fun w st => y_pickt rfl rfl) ?_
   rotate_left
   intro hg143
   try simp only [dn] at hg143
   iterate 3 refine vp_skip rfl rfl rfl hS ?_
   refine vp_do rfl (e_skip rfl rfl (vp_next hS (fun hS => ?_)))
   refine vp_skip rfl rfl rfl hS ?_
   refine vp_take rfl rfl rfl hS (fun w st => y_pickf rfl rfl) ?_
   all_goals
    refine vp_do rfl (e_callv [_, _] rfl rfl rfl call103 rfl (kidx_any _ (fun d hd l w hV hs => ih (szo x) (by have := mem_size hx; have := szo_kids e; omega) x rfl d hd l w hV hs) d hd _ _ _ _ (hV0.kept st.sm) (hs.kept st.chg) _ (by exact cell_nth (st.res (i := 2) rfl) rfl)) ?_)
    rintro _ w ⟨rfl, cw⟩
    replace st := st.call0 cw
    refine vp_next (by exact st) ?_; intro hS
    refine vp_part rfl rfl rfl hS rfl ?_ ?_
    focus
     intro hg151
     try simp only [dn] at hg151
     refine pm hS ?_
     refine vp_take rfl rfl rfl hS (fun w st => (by first | exact y_lda (vs := [_, _, _, _, _, _]) st 0 rfl isAgg42 sizeOf42 rfl rfl | exact y_lda (vs := [_, _, _, _, _, _]) st 1 rfl isAgg42 sizeOf42 rfl rfl)) ?_
     refine pf0 hS underlying42 sizeOf38 ?_
     refine vp_take rfl rfl rfl hS (fun w st => (by first | exact y_ld st 0 rfl isAgg38 rfl rfl | exact y_ld st 1 rfl isAgg38 rfl rfl)) ?_
     refine vp_take rfl rfl rfl hS (fun w st => y_eqi rfl rfl) ?_
     refine vp_part rfl rfl rfl hS rfl ?_ ?_
     intro hg157
     try simp only [dn] at hg157
     refine pfz hS 1 underlying42 sizeOf39 ?_
     refine vp_take rfl rfl rfl hS (fun w st => (by first | exact y_ld st 0 rfl isAgg39 rfl rfl | exact y_ld st 1 rfl isAgg39 rfl rfl)) ?_
     refine pm hS ?_
     refine vp_do rfl (e_call [_] rfl rfl call105 rfl (level_any _ _ (hs.kept st.chg)) ?_)
     rintro _ _ ⟨rfl, rfl⟩
     refine vp_next (by exact st) ?_; intro hS
     refine vp_take rfl rfl rfl hS (fun w st => y_leq rfl rfl) ?_
     refine vp_take rfl rfl rfl hS (fun w st => y_pickt rfl rfl) ?_
     rotate_left
     intro hg157
     try simp only [dn] at hg157
     iterate 3 refine vp_skip rfl rfl rfl hS ?_
     refine vp_do rfl (e_skip rfl rfl (vp_next hS (fun hS => ?_)))
     refine vp_skip rfl rfl rfl hS ?_
     refine vp_take rfl rfl rfl hS (fun w st => y_pickf rfl rfl) ?_
     all_goals
      refine vp_do rfl (e_callv [_, _] rfl rfl rfl call103 rfl (kidx_any _ (fun d hd l w hV hs => ih (szo y) (by have := mem_size hy; have := szo_kids e; omega) y rfl d hd l w hV hs) d hd _ _ _ _ (hV1.kept st.sm) (hs.kept st.chg) _ (by exact cell_nth (st.res (i := 2) rfl) rfl)) ?_)
      rintro _ w ⟨rfl, cw⟩
      replace st := st.call0 cw
      refine vp_next (by exact st) ?_; intro hS
      refine vp_take rfl rfl rfl hS (fun w st => y_pickt rfl rfl) ?_
    rotate_left 2
    intro hg151
    try simp only [dn] at hg151
    iterate 9 refine vp_skip rfl rfl rfl hS ?_
    refine vp_do rfl (e_skip rfl rfl (vp_next hS (fun hS => ?_)))
    iterate 2 refine vp_skip rfl rfl rfl hS ?_
    refine vp_do rfl (e_skip rfl rfl (vp_next hS (fun hS => ?_)))
    refine vp_take rfl rfl rfl hS (fun w st => y_pickf rfl rfl) ?_
    all_goals
     refine vp_take rfl rfl rfl hS (fun w st => y_as rfl) ?_
     refine vp_end (vq_then (vk1 4 (vc_ret (vq_block_ret (vq_then_ret ?_)))))
     refine vr1 st results46 ?_
     refine ⟨?_, st.chg⟩
     show Value.bool _ = Value.bool _
     congr 1
     clear st
     symm
     first
      | (rw [rightE_4 (e := e) (by assumption) hd (two_form hk2 hx hy)]
         clear hV hr hs ih hg hc0 hc1 hV0 hV1 hr0 hr1
         first | rw [inn_f (x := x) (by assumption)] | rw [inn_n (x := x) (by assumption)]
         first | rw [inn_t (x := y) (by assumption)] | rw [inn_n (x := y) (by assumption)] | skip
         simp_all)
 intro hc105
 try simp only [dn] at hc105
 refine vc_code_skip (vq_block (vq_then (vc_keep [] trivial (sr ?_))))
 refine ya ?_
 refine et (vk1 4 (vc_ret ?_))
 refine vr1 st results46 ?_
 refine ⟨?_, st.chg⟩
 show Value.bool _ = Value.bool _
 congr 1
 clear st
 symm
 exact rightE_0 (e := e) (by assumption) (by assumption) (by assumption) (by assumption)
end
end Go.Proofs.YtnmhlpnapgojjaaGreatDoor


namespace Go.Proofs.YtnmhlpnapgojjaaGreatDoor
open Go.RowKit Sx LexS _root_.Go.Proofs.Tryz
section
variable {S : Nat → Prop}

set_option maxHeartbeats 1000000 in
theorem decls_any (ds : List Dc) (oa : Option Addr) (cap : Nat) (b : Bool) (w : World) (hD : DcRow w S oa ds) (hl : ds.length ≤ maxLen) : Ret Tryz.prog 92 [.slice oa ds.length cap, .bool b] w fun v w' => v = .bool (ds.all (dcOk b)) ∧ Chg [] w w' := by
 refine ret_of [_, _] func92 rfl ntmps92 rfl ?_
 have st := St.init w []
 obtain ⟨w0, rfl⟩ : ∃ w0, w0 = w := ⟨_, rfl⟩
 unfold maxLen at hl
 refine sr ?_
 refine ya ?_
 refine et (vk2 0 1 (vc_seq (sr ?_)))
 refine ym ?_
 refine vy (y_lensl rfl underlying23) ?_
 refine ym ?_
 refine et (vk4 1 7 8 9 (vc_block ?_))
 refine vc_loop (w0 := w0) (M := []) (fun (j : Nat) => [(1, .bool b), (7, .slice oa ds.length cap), (8, .int .i64 (ds.length : Int)), (9, .int .i64 (j : Int))]) (fun _ => []) (fun j _ => j ≤ ds.length ∧ (ds.take j).all (dcOk b) = true) (fun j => ds.length - j) 0 ⟨rfl, rfl, rfl, rfl, trivial⟩ st ⟨by omega, by simp⟩ ?_
 rintro j w ⟨hj, hall⟩ st
 refine sr ?_
 refine vy (y_lss rfl rfl) ?_
 refine et (vk5 1 7 8 9 10 (vc_seq ?_))
 refine vif ?_ ?_
 ·intro hc10
  try simp only [dn] at hc10
  obtain ⟨x, hx⟩ : ∃ x, ds[j]? = some x := ⟨_, List.getElem?_eq_getElem (by omega)⟩
  obtain ⟨gb, go, rfl, hgS, hgl, hg⟩ := DcRow.at hD (by omega)
  have hc := hg j x hx
  refine kt (vk4 1 7 8 9 (vc_seq (vc_block (sr ?_))))
  refine vy (y_ia (k := j) rfl rfl underlying23 sizeOf63 rfl (by omega)) ?_
  refine vy (y_ldca (dcL x) rfl isAgg63 sizeOf63 rfl (fun i v hi => st.chg.cell (hc i v hi) (by simp))) ?_
  refine vc_e (e_al (l := [_, _, _]) st rfl rfl zeroValue63 rfl ?_)
  intro b6 w hb6 st
  first
  | refine vc_e (ests st 0 [_, _, _] sizeOf63 ?_)
  intro w st; dsimp only [setNth, wr] at st
  refine et (vk5 1 6 7 8 9 (sr ?_))
  refine vy (y_fa0 rfl underlying63 rfl rfl sizeOf9 rfl) ?_
  refine yl st 0 isAgg9 ?_
  refine vc_e (e_call [_] rfl rfl call52 rfl (name_any _ _) ?_)
  rintro _ _ ⟨rfl, rfl⟩
  refine vy (y_not rfl) ?_
  refine vmb ?_ ?_
  ·intro hg17
   try simp only [dn] at hg17
   iterate 6 refine vsk ?_
   refine ypt ?_
   refine ym ?_
   iterate 7 refine vsk ?_
   refine ypt ?_
   refine et (vk5 1 7 8 9 33 ?_)
   refine vc_ift rfl ?_
   refine sr ?_
   refine ya ?_
   refine et (vk1 4 (vc_ret (vq_block_ret (vq_then_ret (vq_then_ret (vq_block_ret (vq_then_ret ?_)))))))
   refine vr1 st results92 ?_
   refine ⟨?_, st.chg⟩
   (rw [all_no' (p := dcOk b) hx (by clear st hc hg hD; unfold dcOk; cases b <;> simp_all)])
  intro hg17
  try simp only [dn] at hg17
  refine ym ?_
  refine vmb ?_ ?_
  ·intro hg19
   try simp only [dn] at hg19
   refine yfz 1 underlying63 sizeOf2 ?_
   refine yl st 0 isAgg2 ?_
   refine vy (y_eqi rfl rfl) ?_
   refine ypt ?_
   refine ypf ?_
   refine vmb ?_ ?_
   ·intro hg25
    try simp only [dn] at hg25
    iterate 7 refine vsk ?_
    refine ypt ?_
    refine et (vk5 1 7 8 9 33 ?_)
    refine vc_ift rfl ?_
    refine sr ?_
    refine ya ?_
    refine et (vk1 4 (vc_ret (vq_block_ret (vq_then_ret (vq_then_ret (vq_block_ret (vq_then_ret ?_)))))))
    refine vr1 st results92 ?_
    refine ⟨?_, st.chg⟩
    (rw [all_no' (p := dcOk b) hx (by clear st hc hg hD; unfold dcOk; cases b <;> simp_all)])
   intro hg25
   try simp only [dn] at hg25
   refine ym ?_
   refine vy (y_not rfl) ?_
   refine vmb ?_ ?_
   ·intro hg28
    try simp only [dn] at hg28
    refine yfz 1 underlying63 sizeOf2 ?_
    refine yl st 0 isAgg2 ?_
    refine vy (y_nei rfl rfl) ?_
    refine ypt ?_
    refine ypf ?_
    refine et (vk5 1 7 8 9 33 ?_)
    refine vif ?_ ?_
    ·intro hc33
     try simp only [dn] at hc33
     refine sr ?_
     refine ya ?_
     refine et (vk1 4 (vc_ret (vq_block_ret (vq_then_ret (vq_then_ret (vq_block_ret (vq_then_ret ?_)))))))
     refine vr1 st results92 ?_
     refine ⟨?_, st.chg⟩
     (rw [all_no' (p := dcOk b) hx (by clear st hc hg hD; unfold dcOk; cases b <;> simp_all)])
    intro hc33
    try simp only [dn] at hc33
    refine vc_code_skip (vq_block (vq_then (vk4 1 7 8 9 (vc_region ?_))))
    refine vy (y_add rfl rfl (by omega : _ = ((j + 1 : Nat) : Int)) (by omega) (by omega)) ?_
    refine ym ?_
    refine vc_end ?_
    refine vq_again (j + 1)  ⟨rfl, rfl, rfl, rfl, trivial⟩ (st.dr) ?_ ?_
    ·exact ⟨by omega, all_take' hall hx (by clear st hc hg hD; unfold dcOk; cases b <;> simp_all)⟩
    omega
   intro hg28
   try simp only [dn] at hg28
   iterate 3 refine vsk ?_
   iterate 2 refine ypf ?_
   refine et (vk5 1 7 8 9 33 ?_)
   refine vc_iff rfl ?_
   refine vc_code_skip (vq_block (vq_then (vk4 1 7 8 9 (vc_region ?_))))
   refine vy (y_add rfl rfl (by omega : _ = ((j + 1 : Nat) : Int)) (by omega) (by omega)) ?_
   refine ym ?_
   refine vc_end ?_
   refine vq_again (j + 1)  ⟨rfl, rfl, rfl, rfl, trivial⟩ (st.dr) ?_ ?_
   ·exact ⟨by omega, all_take' hall hx (by clear st hc hg hD; unfold dcOk; cases b <;> simp_all)⟩
   omega
  intro hg19
  try simp only [dn] at hg19
  iterate 3 refine vsk ?_
  iterate 2 refine ypf ?_
  iterate 2 refine ym ?_
  refine vy (y_not rfl) ?_
  refine vmb ?_ ?_
  ·intro hg28
   try simp only [dn] at hg28
   refine yfz 1 underlying63 sizeOf2 ?_
   refine yl st 0 isAgg2 ?_
   refine vy (y_nei rfl rfl) ?_
   refine ypt ?_
   refine ypf ?_
   refine et (vk5 1 7 8 9 33 ?_)
   refine vif ?_ ?_
   ·intro hc33
    try simp only [dn] at hc33
    refine sr ?_
    refine ya ?_
    refine et (vk1 4 (vc_ret (vq_block_ret (vq_then_ret (vq_then_ret (vq_block_ret (vq_then_ret ?_)))))))
    refine vr1 st results92 ?_
    refine ⟨?_, st.chg⟩
    (rw [all_no' (p := dcOk b) hx (by clear st hc hg hD; unfold dcOk; cases b <;> simp_all)])
   intro hc33
   try simp only [dn] at hc33
   refine vc_code_skip (vq_block (vq_then (vk4 1 7 8 9 (vc_region ?_))))
   refine vy (y_add rfl rfl (by omega : _ = ((j + 1 : Nat) : Int)) (by omega) (by omega)) ?_
   refine ym ?_
   refine vc_end ?_
   refine vq_again (j + 1)  ⟨rfl, rfl, rfl, rfl, trivial⟩ (st.dr) ?_ ?_
   ·exact ⟨by omega, all_take' hall hx (by clear st hc hg hD; unfold dcOk; cases b <;> simp_all)⟩
   omega
  intro hg28
  try simp only [dn] at hg28
  iterate 3 refine vsk ?_
  iterate 2 refine ypf ?_
  refine et (vk5 1 7 8 9 33 ?_)
  refine vc_iff rfl ?_
  refine vc_code_skip (vq_block (vq_then (vk4 1 7 8 9 (vc_region ?_))))
  refine vy (y_add rfl rfl (by omega : _ = ((j + 1 : Nat) : Int)) (by omega) (by omega)) ?_
  refine ym ?_
  refine vc_end ?_
  refine vq_again (j + 1)  ⟨rfl, rfl, rfl, rfl, trivial⟩ (st.dr) ?_ ?_
  ·exact ⟨by omega, all_take' hall hx (by clear st hc hg hD; unfold dcOk; cases b <;> simp_all)⟩
  omega
 intro hc10
 try simp only [dn] at hc10
 refine vc_exit (vq_then_exit (vq_then_exit (vq_block_exit (vq_then (vc_keep [] trivial (sr ?_))))))
 refine ya ?_
 refine et (vk1 4 (vc_ret ?_))
 refine vr1 st results92 ?_
 refine ⟨?_, st.chg⟩
 rw [all_end hall (by omega)]
theorem namedk_any (l : List UInt8) (b : Bool) (w : World) : Ret Tryz.prog 149 [str l, .bool b] w fun v w' => v = .bool (nmOk b l) ∧ w' = w := named_any l b w

theorem shapes_any (k : Int) (hk : u8 k) (w : World) : Ret Tryz.prog 148 [.int .u8 k] w fun v w' => v = .tuple #[.agg (shpL k).toArray, .bool (decide (1 ≤ k ∧ k ≤ 7))] ∧ Chg [] w w' := by
 refine ret_of [_] func148 rfl ntmps148 rfl ?_
 have st := St.init w []
 refine sr ?_
 refine vc_e (e_al (l := [_, _, _, _, _]) st rfl rfl zeroValue187 rfl ?_)
 intro b2 w hb2 st
 refine ya ?_
 refine et (vk2 0 2 (sr ?_))
 refine vy (ybd (.agg #[_, _, _, _, _]) [(0, _), (2, _)]) ?_
 refine vy (ybd (.agg #[_, _, _, _, _]) [(0, _), (1, _), (2, _)]) ?_
 refine vy (ybd (.agg #[_, _, _, _, _]) [(2, _), (3, _), (4, _)]) ?_
 refine vy (ybd (.agg #[_, _, _, _, _]) [(2, _), (3, _)]) ?_
 refine vy (ybd (.agg #[_, _, _, _, _]) [(0, _), (3, _)]) ?_
 refine vy (ybd (.agg #[_, _, _, _, _]) [(2, _)]) ?_
 refine vy (ybd (.agg #[_, _, _, _, _]) []) ?_
 refine vy (ybd (.agg #[_, _, _, _, _, _, _, _, _, _, _, _, _, _, _, _, _, _, _, _, _, _, _, _, _, _, _, _, _, _, _, _, _, _, _, _, _, _, _, _]) [(1, _), (2, _), (3, _), (4, _), (5, _), (6, _), (7, _)]) ?_
 refine vc_e (e_al (l := [_, _, _, _, _, _, _, _, _, _, _, _, _, _, _, _, _, _, _, _, _, _, _, _, _, _, _, _, _, _, _, _, _, _, _, _, _, _, _, _]) st rfl rfl zeroValue221 rfl ?_)
 intro b4 w hb4 st
 refine vc_e (ests st 0 [_, _, _, _, _, _, _, _, _, _, _, _, _, _, _, _, _, _, _, _, _, _, _, _, _, _, _, _, _, _, _, _, _, _, _, _, _, _, _, _] sizeOf221 ?_)
 intro w st; dsimp only [setNth, wr] at st
 refine et (vk3 0 2 4 (vc_seq (sr ?_)))
 refine ym ?_
 refine vy (y_eqi rfl rfl) ?_
 refine vmb ?_ ?_
 ·intro hg15
  try simp only [dn] at hg15
  iterate 3 refine vsk ?_
  refine ypt ?_
  refine et (vk4 0 2 4 19 ?_)
  refine vc_ift rfl ?_
  refine sr ?_
  refine vy (ybd (.agg #[_, _, _, _, _]) []) ?_
  refine vc_e (ests st 1 [_, _, _, _, _] sizeOf187 ?_)
  intro w st; dsimp only [setNth, wr] at st
  refine ya ?_
  refine et (vk2 2 3 (vc_ret (vq_then_ret ?_)))
  refine vq_ret2 st (.inl rfl) results148 (by exact .cell 1 rfl rfl isAgg187 sizeOf187) (.tmp rfl) ?_
  refine ⟨_, rfl, ?_⟩
  refine ⟨?_, st.chg⟩
  have e1 : hasN k = false := by unfold hasN; simp; omega
  have e2 : decide (k = 2) = false := by simp; omega
  have e3 : hasE k = false := by unfold hasE; simp; omega
  have e4 : hasB k = false := by unfold hasB; simp; omega
  have e5 : decide (k = 3) = false := by simp; omega
  have e6 : decide (1 ≤ k ∧ k ≤ 7) = false := by simp; omega
  simp only [shpL, e1, e2, e3, e4, e5, e6]
 intro hg15
 try simp only [dn] at hg15
 refine ym ?_
 refine vy (y_cvi rfl underlying3 underlying64 (wrap_i64 k (by have h1 := hk.1; have h2 := hk.2; omega) : _ = k)) ?_
 refine vy (y_geq rfl rfl) ?_
 refine ypf ?_
 refine et (vk4 0 2 4 19 ?_)
 refine vif ?_ ?_
 ·intro hc19
  try simp only [dn] at hc19
  refine sr ?_
  refine vy (ybd (.agg #[_, _, _, _, _]) []) ?_
  refine vc_e (ests st 1 [_, _, _, _, _] sizeOf187 ?_)
  intro w st; dsimp only [setNth, wr] at st
  refine ya ?_
  refine et (vk2 2 3 (vc_ret (vq_then_ret ?_)))
  refine vq_ret2 st (.inl rfl) results148 (by exact .cell 1 rfl rfl isAgg187 sizeOf187) (.tmp rfl) ?_
  refine ⟨_, rfl, ?_⟩
  refine ⟨?_, st.chg⟩
  have e1 : hasN k = false := by unfold hasN; simp; omega
  have e2 : decide (k = 2) = false := by simp; omega
  have e3 : hasE k = false := by unfold hasE; simp; omega
  have e4 : hasB k = false := by unfold hasB; simp; omega
  have e5 : decide (k = 3) = false := by simp; omega
  have e6 : decide (1 ≤ k ∧ k ≤ 7) = false := by simp; omega
  simp only [shpL, e1, e2, e3, e4, e5, e6]
 intro hc19
 try simp only [dn] at hc19
 refine kt (vk3 0 2 4 (sr ?_))
 obtain ⟨m, rfl⟩ : ∃ m : Nat, k = (m : Int) := ⟨k.toNat, by have := hk.1; omega⟩
 refine ym ?_
 refine vy (y_iaa (k := m) rfl rfl underlying221 sizeOf187 rfl (by omega)) ?_
 have hq := tab_at (m := m) (st.res (i := 0) rfl) (by omega)
 refine vy (y_ldca (shpL m) rfl isAgg187 sizeOf187 rfl (tab_at (st.res (i := 0) rfl) (by omega))) ?_
 refine vc_e (ests st 1 [_, _, _, _, _] sizeOf187 ?_)
 intro w st; dsimp only [setNth, wr] at st
 refine ya ?_
 refine et (vk2 2 3 (vc_ret ?_))
 refine vq_ret2 st (.inl rfl) results148 (by exact .cell 1 rfl rfl isAgg187 sizeOf187) (.tmp rfl) ?_
 refine ⟨_, rfl, ?_⟩
 refine ⟨?_, st.chg⟩
 have e6 : decide (1 ≤ (m : Int) ∧ (m : Int) ≤ 7) = true := by simp; omega
 rw [e6]
set_option maxHeartbeats 4000000 in
theorem stmts_any : ∀ (n : Nat) (ss : List Sm), szo ss = n → ∀ (d : Nat), d ≤ 65 → (ss.length = 0 ∨ d ≤ 64) → ∀ (oa : Option Addr) (cap : Nat) (w : World), SmRow w S oa ss → OkSs ss → Sig w → Ret Tryz.prog 93 [.slice oa ss.length cap, .int .i64 (d : Int)] w fun v w' => v = .bool (rightSs ss d) ∧ Chg [] w w' := by
 intro n
 refine Nat.strongRecOn n fun n ih => ?_
 intro ss hn d hd0 hd oa cap w hr hok hsg
 subst hn
 have hssl := hok.1
 refine ret_of [_, _] func93 rfl ntmps93 rfl ?_
 have st := St.init w []
 obtain ⟨w0, rfl⟩ : ∃ w0, w0 = w := ⟨_, rfl⟩
 refine sr ?_
 refine ya ?_
 refine et (vk2 0 1 (vc_seq (sr ?_)))
 refine ym ?_
 refine vy (y_lensl rfl underlying65) ?_
 refine ym ?_
 refine et (vk4 1 9 10 11 (vc_block ?_))
 refine vc_loop (w0 := w0) (M := []) (fun (j : Nat) => [(1, .int .i64 (d : Int)), (9, .slice oa ss.length cap), (10, .int .i64 (ss.length : Int)), (11, .int .i64 (j : Int))]) (fun _ => []) (fun j _ => j ≤ ss.length ∧ (ss.take j).all (rightS · d) = true) (fun j => ss.length - j) 0 ⟨rfl, rfl, rfl, rfl, trivial⟩ st ⟨by omega, by simp⟩ ?_
 rintro j w ⟨hj, hall⟩ st
 refine sr ?_
 refine vy (y_lss rfl rfl) ?_
 refine et (vk5 1 9 10 11 12 (vc_seq ?_))
 refine vif ?_ ?_
 ·intro hc12
  try simp only [dn] at hc12
  obtain ⟨s, hsj⟩ : ∃ s, ss[j]? = some s := ⟨_, List.getElem?_eq_getElem (by omega)⟩
  obtain ⟨gb, go, rfl, hgS, hgl, hg⟩ := SmRow.at hr (by omega)
  obtain ⟨oe, ob, ol, ce, cb, cl, hsV, hse, hsb, hsl, hc⟩ := hg j s hsj
  have hks := hok.2 j s hsj
  have hz := mem_size hsj
  have hB : szo s.body < szo ss := by have := (sm_kids s).1; omega
  have hL : szo s.els < szo ss := by have := (sm_kids s).2; omega
  have hd64 : d ≤ 64 := by omega
  refine kt (vk4 1 9 10 11 (vc_seq (vc_block (sr ?_))))
  refine vy (y_ia (k := j) rfl rfl underlying65 sizeOf67 rfl (by omega)) ?_
  refine vy (y_ldca (smL s oe ob ol ce cb cl) rfl isAgg67 sizeOf67 rfl (fun i v hi => st.chg.cell (hc i v hi) (by simp))) ?_
  refine vc_e (e_al (l := [_, _, _, _, _, _, _]) st rfl rfl zeroValue67 rfl ?_)
  intro b6 w hb6 st
  refine vc_e (ests st 0 [_, _, _, _, _, _, _] sizeOf67 ?_)
  intro w st; dsimp only [setNth, wr] at st
  refine et (vk5 1 6 9 10 11 (sr ?_))
  refine vy (y_fa0 rfl underlying67 rfl rfl sizeOf64 rfl) ?_
  refine yl st 0 isAgg64 ?_
  refine vc_e (e_call [_] rfl rfl call148 rfl (shapes_any s.k hks.k _) ?_)
  rintro _ w ⟨rfl, cw⟩
  replace st := st.call0 cw
  refine ym ?_
  iterate 2 refine vy (y_ext rfl rfl) ?_
  refine vc_e (e_al (l := [_, _, _, _, _]) st rfl rfl zeroValue187 rfl ?_)
  intro b7 w hb7 st
  refine vc_e (ests st 0 [_, _, _, _, _] sizeOf187 ?_)
  intro w st; dsimp only [setNth, wr] at st
  refine ya ?_
  refine et (vk7 1 6 7 8 9 10 11 ?_)
  refine vc_cut (w0 := w0) (M := []) (fun (_ : Unit) => [(1, .int .i64 (d : Int)), (6, .pointer (some ⟨b6, 0, none⟩)), (7, .pointer (some ⟨b7, 0, none⟩)), (9, .slice (some ⟨gb, go, none⟩) ss.length cap), (10, .int .i64 (ss.length : Int)), (11, .int .i64 (j : Int))]) (fun _ => [.blk b7 (.cells (shpL s.k).toArray 187 (0, 0)), .blk b6 (.cells (smL s oe ob ol ce cb cl).toArray 67 (0, 0))]) (fun _ _ => (1 ≤ s.k ∧ s.k ≤ 7) ∧ nmOk (hasN s.k) s.nm = true ∧ nmOk (decide (s.k = 2)) s.other = true ∧ (hasB s.k = true ∨ s.body.length = 0) ∧ (s.k = 3 ∨ s.els.length = 0)) ?_ ?_
  ·refine vc_seq ?_
   refine vc_region ?_
   refine ym ?_
   refine vy (y_not rfl) ?_
   refine vmb ?_ ?_
   ·intro hg23
    try simp only [dn] at hg23
    iterate 6 refine vsk ?_
    refine ypt ?_
    refine ym ?_
    iterate 6 refine vsk ?_
    refine ypt ?_
    refine ym ?_
    iterate 9 refine vsk ?_
    refine ypt ?_
    refine ym ?_
    iterate 9 refine vsk ?_
    refine ypt ?_
    refine et (vk7 1 6 7 9 10 11 60 ?_)
    refine vc_ift rfl ?_
    refine sr ?_
    refine ya ?_
    refine et (vk1 4 (vc_ret (vq_then_ret (vq_block_ret (vq_then_ret (vq_then_ret (vq_block_ret (vq_then_ret ?_))))))))
    refine vr1 st results93 ?_
    refine ⟨?_, st.chg⟩
    first
     | (refine rightS_no hsj fun hR => ?_
        obtain ⟨r1, r2, r3, r4, r5, r6, r7, r8, r9⟩ := rightS_iff.1 hR
        clear st hsV hse hsb hsl hc hg hr ih hok hks hall
        omega)
   intro hg23
   try simp only [dn] at hg23
   refine yfz 1 underlying67 sizeOf9 ?_
   refine yl st 1 isAgg9 ?_
   refine vy (y_fa0 rfl underlying187 rfl rfl sizeOf4 rfl) ?_
   refine yl st 0 isAgg4 ?_
   refine vc_e (e_call [_, _] rfl rfl call149 rfl (namedk_any _ _ _) ?_)
   rintro _ _ ⟨rfl, rfl⟩
   refine vy (y_not rfl) ?_
   refine ypf ?_
   refine vmb ?_ ?_
   ·intro hg31
    try simp only [dn] at hg31
    iterate 6 refine vsk ?_
    refine ypt ?_
    refine ym ?_
    iterate 9 refine vsk ?_
    refine ypt ?_
    refine ym ?_
    iterate 9 refine vsk ?_
    refine ypt ?_
    refine et (vk7 1 6 7 9 10 11 60 ?_)
    refine vc_ift rfl ?_
    refine sr ?_
    refine ya ?_
    refine et (vk1 4 (vc_ret (vq_then_ret (vq_block_ret (vq_then_ret (vq_then_ret (vq_block_ret (vq_then_ret ?_))))))))
    refine vr1 st results93 ?_
    refine ⟨?_, st.chg⟩
    first
     | (refine rightS_no hsj fun hR => ?_
        obtain ⟨r1, r2, r3, r4, r5, r6, r7, r8, r9⟩ := rightS_iff.1 hR
        clear st hsV hse hsb hsl hc hg hr ih hok hks hall
        (simp_all; done))
   intro hg31
   try simp only [dn] at hg31
   refine yfz 2 underlying67 sizeOf9 ?_
   refine yl st 1 isAgg9 ?_
   refine yfz 1 underlying187 sizeOf4 ?_
   refine yl st 0 isAgg4 ?_
   refine vc_e (e_call [_, _] rfl rfl call149 rfl (namedk_any _ _ _) ?_)
   rintro _ _ ⟨rfl, rfl⟩
   refine vy (y_not rfl) ?_
   refine ypf ?_
   refine vmb ?_ ?_
   ·intro hg39
    try simp only [dn] at hg39
    iterate 9 refine vsk ?_
    refine ypt ?_
    refine ym ?_
    iterate 9 refine vsk ?_
    refine ypt ?_
    refine et (vk7 1 6 7 9 10 11 60 ?_)
    refine vc_ift rfl ?_
    refine sr ?_
    refine ya ?_
    refine et (vk1 4 (vc_ret (vq_then_ret (vq_block_ret (vq_then_ret (vq_then_ret (vq_block_ret (vq_then_ret ?_))))))))
    refine vr1 st results93 ?_
    refine ⟨?_, st.chg⟩
    first
     | (refine rightS_no hsj fun hR => ?_
        obtain ⟨r1, r2, r3, r4, r5, r6, r7, r8, r9⟩ := rightS_iff.1 hR
        clear st hsV hse hsb hsl hc hg hr ih hok hks hall
        (simp_all; done))
   intro hg39
   try simp only [dn] at hg39
   refine yfz 3 underlying187 sizeOf4 ?_
   refine yl st 0 isAgg4 ?_
   refine vy (y_not rfl) ?_
   refine vmb ?_ ?_
   ·intro hg43
    try simp only [dn] at hg43
    refine yfz 4 underlying67 sizeOf65 ?_
    refine yl st 1 isAgg65 ?_
    refine vy (y_lensl rfl underlying65) ?_
    refine vy (y_gtr rfl rfl) ?_
    refine ypt ?_
    refine ypf ?_
    refine vmb ?_ ?_
    ·intro hg50
     try simp only [dn] at hg50
     iterate 9 refine vsk ?_
     refine ypt ?_
     refine et (vk7 1 6 7 9 10 11 60 ?_)
     refine vc_ift rfl ?_
     refine sr ?_
     refine ya ?_
     refine et (vk1 4 (vc_ret (vq_then_ret (vq_block_ret (vq_then_ret (vq_then_ret (vq_block_ret (vq_then_ret ?_))))))))
     refine vr1 st results93 ?_
     refine ⟨?_, st.chg⟩
     first
      | (refine rightS_no hsj fun hR => ?_
         obtain ⟨r1, r2, r3, r4, r5, r6, r7, r8, r9⟩ := rightS_iff.1 hR
         clear st hsV hse hsb hsl hc hg hr ih hok hks hall
         (simp_all; done))
    intro hg50
    try simp only [dn] at hg50
    refine yfz 4 underlying187 sizeOf4 ?_
    refine yl st 0 isAgg4 ?_
    refine vy (y_not rfl) ?_
    refine vmb ?_ ?_
    ·intro hg54
     try simp only [dn] at hg54
     refine yfz 5 underlying67 sizeOf65 ?_
     refine yl st 1 isAgg65 ?_
     refine vy (y_lensl rfl underlying65) ?_
     refine vy (y_gtr rfl rfl) ?_
     refine ypt ?_
     refine ypf ?_
     refine et (vk7 1 6 7 9 10 11 60 ?_)
     refine vif ?_ ?_
     ·intro hc60
      try simp only [dn] at hc60
      refine sr ?_
      refine ya ?_
      refine et (vk1 4 (vc_ret (vq_then_ret (vq_block_ret (vq_then_ret (vq_then_ret (vq_block_ret (vq_then_ret ?_))))))))
      refine vr1 st results93 ?_
      refine ⟨?_, st.chg⟩
      first
       | (refine rightS_no hsj fun hR => ?_
          obtain ⟨r1, r2, r3, r4, r5, r6, r7, r8, r9⟩ := rightS_iff.1 hR
          clear st hsV hse hsb hsl hc hg hr ih hok hks hall
          omega)
     intro hc60
     try simp only [dn] at hc60
     refine vc_code_skip ?_
     refine vq_meet () ⟨rfl, rfl, rfl, rfl, rfl, rfl, trivial⟩ st ?_
     ·refine ⟨by assumption, by assumption, by assumption, ?_, ?_⟩ <;> (right; omega)
    intro hg54
    try simp only [dn] at hg54
    iterate 4 refine vsk ?_
    iterate 2 refine ypf ?_
    refine et (vk7 1 6 7 9 10 11 60 ?_)
    refine vc_iff rfl ?_
    refine vc_code_skip ?_
    refine vq_meet () ⟨rfl, rfl, rfl, rfl, rfl, rfl, trivial⟩ st ?_
    ·refine ⟨by assumption, by assumption, by assumption, ?_, ?_⟩ <;> first | (left; assumption) | (right; omega)
   intro hg43
   try simp only [dn] at hg43
   iterate 4 refine vsk ?_
   iterate 2 refine ypf ?_
   refine ym ?_
   refine yfz 4 underlying187 sizeOf4 ?_
   refine yl st 0 isAgg4 ?_
   refine vy (y_not rfl) ?_
   refine vmb ?_ ?_
   ·intro hg54
    try simp only [dn] at hg54
    refine yfz 5 underlying67 sizeOf65 ?_
    refine yl st 1 isAgg65 ?_
    refine vy (y_lensl rfl underlying65) ?_
    refine vy (y_gtr rfl rfl) ?_
    refine ypt ?_
    refine ypf ?_
    refine et (vk7 1 6 7 9 10 11 60 ?_)
    refine vif ?_ ?_
    ·intro hc60
     try simp only [dn] at hc60
     refine sr ?_
     refine ya ?_
     refine et (vk1 4 (vc_ret (vq_then_ret (vq_block_ret (vq_then_ret (vq_then_ret (vq_block_ret (vq_then_ret ?_))))))))
     refine vr1 st results93 ?_
     refine ⟨?_, st.chg⟩
     first
      | (refine rightS_no hsj fun hR => ?_
         obtain ⟨r1, r2, r3, r4, r5, r6, r7, r8, r9⟩ := rightS_iff.1 hR
         clear st hsV hse hsb hsl hc hg hr ih hok hks hall
         omega)
    intro hc60
    try simp only [dn] at hc60
    refine vc_code_skip ?_
    refine vq_meet () ⟨rfl, rfl, rfl, rfl, rfl, rfl, trivial⟩ st ?_
    ·refine ⟨by assumption, by assumption, by assumption, ?_, ?_⟩ <;> first | (left; assumption) | (right; omega)
   intro hg54
   try simp only [dn] at hg54
   iterate 4 refine vsk ?_
   iterate 2 refine ypf ?_
   refine et (vk7 1 6 7 9 10 11 60 ?_)
   refine vc_iff rfl ?_
   refine vc_code_skip ?_
   refine vq_meet () ⟨rfl, rfl, rfl, rfl, rfl, rfl, trivial⟩ st ?_
   ·refine ⟨by assumption, by assumption, by assumption, ?_, ?_⟩ <;> (left; assumption)
  clear st
  rintro ⟨⟩ w ⟨hA1, hA2, hA3, hA4, hA5⟩ st
  refine vc_cut (w0 := w0) (M := []) (fun (_ : Unit) => [(1, .int .i64 (d : Int)), (6, .pointer (some ⟨b6, 0, none⟩)), (7, .pointer (some ⟨b7, 0, none⟩)), (9, .slice (some ⟨gb, go, none⟩) ss.length cap), (10, .int .i64 (ss.length : Int)), (11, .int .i64 (j : Int))]) (fun _ => [.blk b7 (.cells (shpL s.k).toArray 187 (0, 0)), .blk b6 (.cells (smL s oe ob ol ce cb cl).toArray 67 (0, 0))]) (fun _ _ => rightX (hasE s.k) s.e = true) ?_ ?_
  ·refine vc_seq ?_
   refine vc_region ?_
   refine yfz 2 underlying187 sizeOf4 ?_
   refine yl st 0 isAgg4 ?_
   refine vmb ?_ ?_
   ·intro hg63
    try simp only [dn] at hg63
    refine yfz 3 underlying67 sizeOf40 ?_
    refine yl st 1 isAgg40 ?_
    refine vy (y_lensl rfl underlying40) ?_
    refine vy (y_nei rfl rfl) ?_
    refine vmb ?_ ?_
    ·intro hg68
     try simp only [dn] at hg68
     iterate 6 refine vsk ?_
     iterate 2 refine ypt ?_
     refine ym ?_
     iterate 9 refine vsk ?_
     refine ypt ?_
     refine et (vk7 1 6 7 9 10 11 87 ?_)
     refine vc_ift rfl ?_
     refine sr ?_
     refine ya ?_
     refine et (vk1 4 (vc_ret (vq_then_ret (vq_block_ret (vq_then_ret (vq_then_ret (vq_block_ret (vq_then_ret ?_))))))))
     refine vr1 st results93 ?_
     refine ⟨?_, st.chg⟩
     first
      | (refine rightS_no hsj fun hR => ?_
         obtain ⟨r1, r2, r3, r4, r5, r6, r7, r8, r9⟩ := rightS_iff.1 hR
         clear st hsV hse hsb hsl hc hg hr ih hok hks hall
         first
           | (have hE : hasE s.k = true := by assumption
              rw [hE] at r4
              (rw [rightX_n (by omega)] at r4; cases r4)))
    intro hg68
    try simp only [dn] at hg68
    obtain ⟨x, hx⟩ := get0 (l := s.e) (n := s.e.length) rfl (by omega)
    obtain ⟨eb, eo, rfl, heS, hel, heg⟩ := ExRow.at hse (by omega)
    obtain ⟨o0, c0, hV0, hr0, hc0⟩ := heg 0 x hx
    refine yfz 3 underlying67 sizeOf40 ?_
    refine yl st 1 isAgg40 ?_
    refine vy (y_ia (k := 0) rfl rfl underlying40 sizeOf42 rfl (by omega)) ?_
    refine vy (y_ldca (exL x o0 c0) rfl isAgg42 sizeOf42 rfl (fun i v hi => st.chg.cell (hc0 i v hi) (by simp))) ?_
    refine vc_e (e_call [_, _] rfl rfl call46 rfl (expr_any _ x rfl 0 (by omega) _ _ (hV0.kept st.sm) (hsg.kept st.chg)) ?_)
    rintro _ w ⟨rfl, cw⟩
    replace st := st.call0 cw
    refine vy (y_not rfl) ?_
    refine ypf ?_
    refine ypt ?_
    refine vmb ?_ ?_
    ·intro hg77
     try simp only [dn] at hg77
     iterate 9 refine vsk ?_
     refine ypt ?_
     refine et (vk7 1 6 7 9 10 11 87 ?_)
     refine vc_ift rfl ?_
     refine sr ?_
     refine ya ?_
     refine et (vk1 4 (vc_ret (vq_then_ret (vq_block_ret (vq_then_ret (vq_then_ret (vq_block_ret (vq_then_ret ?_))))))))
     refine vr1 st results93 ?_
     refine ⟨?_, st.chg⟩
     first
      | (refine rightS_no hsj fun hR => ?_
         obtain ⟨r1, r2, r3, r4, r5, r6, r7, r8, r9⟩ := rightS_iff.1 hR
         clear st hsV hse hsb hsl hc hg hr ih hok hks hall
         first
           | (have hE : hasE s.k = true := by assumption
              rw [hE] at r4
              (rw [rightX_t (by omega) hx] at r4; simp_all; done)))
    intro hg77
    try simp only [dn] at hg77
    refine yfz 2 underlying187 sizeOf4 ?_
    refine yl st 0 isAgg4 ?_
    refine vy (y_not rfl) ?_
    refine vmb ?_ ?_
    ·intro hg81
     try simp only [dn] at hg81
     refine yfz 3 underlying67 sizeOf40 ?_
     refine yl st 1 isAgg40 ?_
     refine vy (y_lensl rfl underlying40) ?_
     refine vy (y_gtr rfl rfl) ?_
     refine ypt ?_
     refine ypf ?_
     refine et (vk7 1 6 7 9 10 11 87 ?_)
     refine vif ?_ ?_
     ·intro hc87
      try simp only [dn] at hc87
      refine sr ?_
      refine ya ?_
      refine et (vk1 4 (vc_ret (vq_then_ret (vq_block_ret (vq_then_ret (vq_then_ret (vq_block_ret (vq_then_ret ?_))))))))
      refine vr1 st results93 ?_
      refine ⟨?_, st.chg⟩
      first
       | (refine rightS_no hsj fun hR => ?_
          obtain ⟨r1, r2, r3, r4, r5, r6, r7, r8, r9⟩ := rightS_iff.1 hR
          clear st hsV hse hsb hsl hc hg hr ih hok hks hall
          (simp_all; done))
     intro hc87
     try simp only [dn] at hc87
     refine vc_code_skip ?_
     refine vq_meet () ⟨rfl, rfl, rfl, rfl, rfl, rfl, trivial⟩ st ?_
     ·first
       | (exfalso; have h1 : hasE s.k = true := by assumption
          have h2 : hasE s.k = false := by assumption
          rw [h1] at h2; cases h2)
    intro hg81
    try simp only [dn] at hg81
    iterate 4 refine vsk ?_
    iterate 2 refine ypf ?_
    refine et (vk7 1 6 7 9 10 11 87 ?_)
    refine vc_iff rfl ?_
    refine vc_code_skip ?_
    refine vq_meet () ⟨rfl, rfl, rfl, rfl, rfl, rfl, trivial⟩ st ?_
    ·first
      | (have hE : hasE s.k = true := by assumption
         rw [hE, rightX_t (by omega) hx]; assumption)
   intro hg63
   try simp only [dn] at hg63
   iterate 12 refine vsk ?_
   refine ypf ?_
   refine ym ?_
   refine yfz 2 underlying187 sizeOf4 ?_
   refine yl st 0 isAgg4 ?_
   refine vy (y_not rfl) ?_
   refine vmb ?_ ?_
   ·intro hg81
    try simp only [dn] at hg81
    refine yfz 3 underlying67 sizeOf40 ?_
    refine yl st 1 isAgg40 ?_
    refine vy (y_lensl rfl underlying40) ?_
    refine vy (y_gtr rfl rfl) ?_
    refine ypt ?_
    refine ypf ?_
    refine et (vk7 1 6 7 9 10 11 87 ?_)
    refine vif ?_ ?_
    ·intro hc87
     try simp only [dn] at hc87
     refine sr ?_
     refine ya ?_
     refine et (vk1 4 (vc_ret (vq_then_ret (vq_block_ret (vq_then_ret (vq_then_ret (vq_block_ret (vq_then_ret ?_))))))))
     refine vr1 st results93 ?_
     refine ⟨?_, st.chg⟩
     first
      | (refine rightS_no hsj fun hR => ?_
         obtain ⟨r1, r2, r3, r4, r5, r6, r7, r8, r9⟩ := rightS_iff.1 hR
         clear st hsV hse hsb hsl hc hg hr ih hok hks hall
         first
           | (have hE : hasE s.k = false := by assumption
              rw [hE, rightX_f, decide_eq_true_eq] at r4; omega))
    intro hc87
    try simp only [dn] at hc87
    refine vc_code_skip ?_
    refine vq_meet () ⟨rfl, rfl, rfl, rfl, rfl, rfl, trivial⟩ st ?_
    ·first
      | (have hE : hasE s.k = false := by assumption
         rw [hE, rightX_f, decide_eq_true_eq]; omega)
   intro hg81
   try simp only [dn] at hg81
   iterate 4 refine vsk ?_
   iterate 2 refine ypf ?_
   refine et (vk7 1 6 7 9 10 11 87 ?_)
   refine vc_iff rfl ?_
   refine vc_code_skip ?_
   refine vq_meet () ⟨rfl, rfl, rfl, rfl, rfl, rfl, trivial⟩ st ?_
   ·first
     | (exfalso; have h1 : hasE s.k = true := by assumption
        have h2 : hasE s.k = false := by assumption
        rw [h1] at h2; cases h2)
  clear st
  rintro ⟨⟩ w hA6 st
  refine sr ?_
  refine yfz 3 underlying187 sizeOf4 ?_
  refine yl st 0 isAgg4 ?_
  refine vmb ?_ ?_
  ·intro hg90
   try simp only [dn] at hg90
   iterate 4 refine vsk ?_
   refine ypt ?_
   iterate 2 refine ym ?_
   refine vy (y_geq rfl rfl) ?_
   refine ypt ?_
   refine vmb ?_ ?_
   ·intro hg100
    try simp only [dn] at hg100
    iterate 6 refine vsk ?_
    refine ypt ?_
    refine ym ?_
    iterate 6 refine vsk ?_
    refine ypt ?_
    refine et (vk5 1 9 10 11 115 ?_)
    refine vc_ift rfl ?_
    refine sr ?_
    refine ya ?_
    refine et (vk1 4 (vc_ret (vq_block_ret (vq_then_ret (vq_then_ret (vq_block_ret (vq_then_ret ?_)))))))
    refine vr1 st results93 ?_
    refine ⟨?_, st.chg⟩
    first
     | (refine rightS_no hsj fun hR => ?_
        obtain ⟨r1, r2, r3, r4, r5, r6, r7, r8, r9⟩ := rightS_iff.1 hR
        clear st hsV hse hsb hsl hc hg hr ih hok hks hall
        (simp_all; omega))
   intro hg100
   try simp only [dn] at hg100
   refine yfz 4 underlying67 sizeOf65 ?_
   refine yl st 1 isAgg65 ?_
   refine ym ?_
   refine vy (y_add rfl rfl (by omega : _ = ((d + 1 : Nat) : Int)) (by omega) (by omega)) ?_
   refine vc_e (e_call [_, _] rfl rfl call93 rfl (ih (szo s.body) hB s.body rfl (d + 1) (by omega) (by (right; omega)) _ _ _ (hsb.kept st.sm) hks.body (hsg.kept st.chg)) ?_)
   rintro _ w ⟨rfl, cw⟩
   replace st := st.call0 cw
   refine vy (y_not rfl) ?_
   refine ypf ?_
   refine vmb ?_ ?_
   ·intro hg108
    try simp only [dn] at hg108
    iterate 6 refine vsk ?_
    refine ypt ?_
    refine et (vk5 1 9 10 11 115 ?_)
    refine vc_ift rfl ?_
    refine sr ?_
    refine ya ?_
    refine et (vk1 4 (vc_ret (vq_block_ret (vq_then_ret (vq_then_ret (vq_block_ret (vq_then_ret ?_)))))))
    refine vr1 st results93 ?_
    refine ⟨?_, st.chg⟩
    first
     | (refine rightS_no hsj fun hR => ?_
        obtain ⟨r1, r2, r3, r4, r5, r6, r7, r8, r9⟩ := rightS_iff.1 hR
        clear st hsV hse hsb hsl hc hg hr ih hok hks hall
        (simp_all; done))
   intro hg108
   try simp only [dn] at hg108
   skip
   refine yfz 5 underlying67 sizeOf65 ?_
   refine yl st 1 isAgg65 ?_
   refine ym ?_
   refine vy (y_add rfl rfl (by omega : _ = ((d + 1 : Nat) : Int)) (by omega) (by omega)) ?_
   refine vc_e (e_call [_, _] rfl rfl call93 rfl (ih (szo s.els) hL s.els rfl (d + 1) (by omega) (by (right; omega)) _ _ _ (hsl.kept st.sm) hks.els (hsg.kept st.chg)) ?_)
   rintro _ w ⟨rfl, cw⟩
   replace st := st.call0 cw
   refine vy (y_not rfl) ?_
   refine ypf ?_
   refine et (vk5 1 9 10 11 115 ?_)
   refine vif ?_ ?_
   ·intro hc115
    try simp only [dn] at hc115
    refine sr ?_
    refine ya ?_
    refine et (vk1 4 (vc_ret (vq_block_ret (vq_then_ret (vq_then_ret (vq_block_ret (vq_then_ret ?_)))))))
    refine vr1 st results93 ?_
    refine ⟨?_, st.chg⟩
    first
     | (refine rightS_no hsj fun hR => ?_
        obtain ⟨r1, r2, r3, r4, r5, r6, r7, r8, r9⟩ := rightS_iff.1 hR
        clear st hsV hse hsb hsl hc hg hr ih hok hks hall
        (simp_all; done))
   intro hc115
   try simp only [dn] at hc115
   refine vc_code_skip (vq_block (vq_then (vk4 1 9 10 11 (vc_region ?_))))
   refine vy (y_add rfl rfl (by omega : _ = ((j + 1 : Nat) : Int)) (by omega) (by omega)) ?_
   refine ym ?_
   refine vc_end ?_
   refine vq_again (j + 1)  ⟨rfl, rfl, rfl, rfl, trivial⟩ (st.dr) ?_ ?_
   ·exact ⟨by omega, all_take' hall hsj (rightS_iff.2 ⟨hA1, hA2, hA3, hA6, hA4, hA5, by (right; omega), by assumption, by assumption⟩)⟩
   omega
  intro hg90
  try simp only [dn] at hg90
  refine yfz 5 underlying67 sizeOf65 ?_
  refine yl st 1 isAgg65 ?_
  refine vy (y_lensl rfl underlying65) ?_
  refine vy (y_gtr rfl rfl) ?_
  refine ypf ?_
  refine vmb ?_ ?_
  ·intro hg96
   try simp only [dn] at hg96
   refine ym ?_
   refine vy (y_geq rfl rfl) ?_
   refine ypt ?_
   refine vmb ?_ ?_
   ·intro hg100
    try simp only [dn] at hg100
    iterate 6 refine vsk ?_
    refine ypt ?_
    refine ym ?_
    iterate 6 refine vsk ?_
    refine ypt ?_
    refine et (vk5 1 9 10 11 115 ?_)
    refine vc_ift rfl ?_
    refine sr ?_
    refine ya ?_
    refine et (vk1 4 (vc_ret (vq_block_ret (vq_then_ret (vq_then_ret (vq_block_ret (vq_then_ret ?_)))))))
    refine vr1 st results93 ?_
    refine ⟨?_, st.chg⟩
    first
     | (refine rightS_no hsj fun hR => ?_
        obtain ⟨r1, r2, r3, r4, r5, r6, r7, r8, r9⟩ := rightS_iff.1 hR
        clear st hsV hse hsb hsl hc hg hr ih hok hks hall
        omega)
   intro hg100
   try simp only [dn] at hg100
   refine yfz 4 underlying67 sizeOf65 ?_
   refine yl st 1 isAgg65 ?_
   refine ym ?_
   refine vy (y_add rfl rfl (by omega : _ = ((d + 1 : Nat) : Int)) (by omega) (by omega)) ?_
   refine vc_e (e_call [_, _] rfl rfl call93 rfl (ih (szo s.body) hB s.body rfl (d + 1) (by omega) (by (right; omega)) _ _ _ (hsb.kept st.sm) hks.body (hsg.kept st.chg)) ?_)
   rintro _ w ⟨rfl, cw⟩
   replace st := st.call0 cw
   refine vy (y_not rfl) ?_
   refine ypf ?_
   refine vmb ?_ ?_
   ·intro hg108
    try simp only [dn] at hg108
    iterate 6 refine vsk ?_
    refine ypt ?_
    refine et (vk5 1 9 10 11 115 ?_)
    refine vc_ift rfl ?_
    refine sr ?_
    refine ya ?_
    refine et (vk1 4 (vc_ret (vq_block_ret (vq_then_ret (vq_then_ret (vq_block_ret (vq_then_ret ?_)))))))
    refine vr1 st results93 ?_
    refine ⟨?_, st.chg⟩
    first
     | (refine rightS_no hsj fun hR => ?_
        obtain ⟨r1, r2, r3, r4, r5, r6, r7, r8, r9⟩ := rightS_iff.1 hR
        clear st hsV hse hsb hsl hc hg hr ih hok hks hall
        (simp_all; done))
   intro hg108
   try simp only [dn] at hg108
   skip
   refine yfz 5 underlying67 sizeOf65 ?_
   refine yl st 1 isAgg65 ?_
   refine ym ?_
   refine vy (y_add rfl rfl (by omega : _ = ((d + 1 : Nat) : Int)) (by omega) (by omega)) ?_
   refine vc_e (e_call [_, _] rfl rfl call93 rfl (ih (szo s.els) hL s.els rfl (d + 1) (by omega) (by (right; omega)) _ _ _ (hsl.kept st.sm) hks.els (hsg.kept st.chg)) ?_)
   rintro _ w ⟨rfl, cw⟩
   replace st := st.call0 cw
   refine vy (y_not rfl) ?_
   refine ypf ?_
   refine et (vk5 1 9 10 11 115 ?_)
   refine vif ?_ ?_
   ·intro hc115
    try simp only [dn] at hc115
    refine sr ?_
    refine ya ?_
    refine et (vk1 4 (vc_ret (vq_block_ret (vq_then_ret (vq_then_ret (vq_block_ret (vq_then_ret ?_)))))))
    refine vr1 st results93 ?_
    refine ⟨?_, st.chg⟩
    first
     | (refine rightS_no hsj fun hR => ?_
        obtain ⟨r1, r2, r3, r4, r5, r6, r7, r8, r9⟩ := rightS_iff.1 hR
        clear st hsV hse hsb hsl hc hg hr ih hok hks hall
        (simp_all; done))
   intro hc115
   try simp only [dn] at hc115
   refine vc_code_skip (vq_block (vq_then (vk4 1 9 10 11 (vc_region ?_))))
   refine vy (y_add rfl rfl (by omega : _ = ((j + 1 : Nat) : Int)) (by omega) (by omega)) ?_
   refine ym ?_
   refine vc_end ?_
   refine vq_again (j + 1)  ⟨rfl, rfl, rfl, rfl, trivial⟩ (st.dr) ?_ ?_
   ·exact ⟨by omega, all_take' hall hsj (rightS_iff.2 ⟨hA1, hA2, hA3, hA6, hA4, hA5, by (right; omega), by assumption, by assumption⟩)⟩
   omega
  intro hg96
  try simp only [dn] at hg96
  iterate 2 refine vsk ?_
  refine ypf ?_
  refine ym ?_
  refine yfz 4 underlying67 sizeOf65 ?_
  refine yl st 1 isAgg65 ?_
  refine ym ?_
  refine vy (y_add rfl rfl (by omega : _ = ((d + 1 : Nat) : Int)) (by omega) (by omega)) ?_
  refine vc_e (e_call [_, _] rfl rfl call93 rfl (ih (szo s.body) hB s.body rfl (d + 1) (by omega) (by (left; exact hA4.resolve_left (by rw [‹hasB s.k = false›]; simp))) _ _ _ (hsb.kept st.sm) hks.body (hsg.kept st.chg)) ?_)
  rintro _ w ⟨rfl, cw⟩
  replace st := st.call0 cw
  refine vy (y_not rfl) ?_
  refine ypf ?_
  refine vmb ?_ ?_
  ·intro hg108
   try simp only [dn] at hg108
   iterate 6 refine vsk ?_
   refine ypt ?_
   refine et (vk5 1 9 10 11 115 ?_)
   refine vc_ift rfl ?_
   refine sr ?_
   refine ya ?_
   refine et (vk1 4 (vc_ret (vq_block_ret (vq_then_ret (vq_then_ret (vq_block_ret (vq_then_ret ?_)))))))
   refine vr1 st results93 ?_
   refine ⟨?_, st.chg⟩
   first
    | (refine rightS_no hsj fun hR => ?_
       obtain ⟨r1, r2, r3, r4, r5, r6, r7, r8, r9⟩ := rightS_iff.1 hR
       clear st hsV hse hsb hsl hc hg hr ih hok hks hall
       (simp_all; done))
  intro hg108
  try simp only [dn] at hg108
  skip
  refine yfz 5 underlying67 sizeOf65 ?_
  refine yl st 1 isAgg65 ?_
  refine ym ?_
  refine vy (y_add rfl rfl (by omega : _ = ((d + 1 : Nat) : Int)) (by omega) (by omega)) ?_
  refine vc_e (e_call [_, _] rfl rfl call93 rfl (ih (szo s.els) hL s.els rfl (d + 1) (by omega) (by (left; omega)) _ _ _ (hsl.kept st.sm) hks.els (hsg.kept st.chg)) ?_)
  rintro _ w ⟨rfl, cw⟩
  replace st := st.call0 cw
  refine vy (y_not rfl) ?_
  refine ypf ?_
  refine et (vk5 1 9 10 11 115 ?_)
  refine vif ?_ ?_
  ·intro hc115
   try simp only [dn] at hc115
   refine sr ?_
   refine ya ?_
   refine et (vk1 4 (vc_ret (vq_block_ret (vq_then_ret (vq_then_ret (vq_block_ret (vq_then_ret ?_)))))))
   refine vr1 st results93 ?_
   refine ⟨?_, st.chg⟩
   first
    | (refine rightS_no hsj fun hR => ?_
       obtain ⟨r1, r2, r3, r4, r5, r6, r7, r8, r9⟩ := rightS_iff.1 hR
       clear st hsV hse hsb hsl hc hg hr ih hok hks hall
       (simp_all; done))
  intro hc115
  try simp only [dn] at hc115
  refine vc_code_skip (vq_block (vq_then (vk4 1 9 10 11 (vc_region ?_))))
  refine vy (y_add rfl rfl (by omega : _ = ((j + 1 : Nat) : Int)) (by omega) (by omega)) ?_
  refine ym ?_
  refine vc_end ?_
  refine vq_again (j + 1)  ⟨rfl, rfl, rfl, rfl, trivial⟩ (st.dr) ?_ ?_
  ·exact ⟨by omega, all_take' hall hsj (rightS_iff.2 ⟨hA1, hA2, hA3, hA6, hA4, hA5, by (left; exact ⟨by assumption, by omega⟩), by assumption, by assumption⟩)⟩
  omega
 intro hc12
 try simp only [dn] at hc12
 refine vc_exit (vq_then_exit (vq_then_exit (vq_block_exit (vq_then (vc_keep [] trivial (sr ?_))))))
 refine ya ?_
 refine et (vk1 4 (vc_ret ?_))
 refine vr1 st results93 ?_
 refine ⟨?_, st.chg⟩
 rw [rightSs_eq, all_end hall (by omega)]
end
end Go.Proofs.YtnmhlpnapgojjaaGreatDoor


namespace Go.Proofs.YtnmhlpnapgojjaaGreatDoor
open Go.RowKit Sx LexS _root_.Go.Proofs.Tryz
section
variable {S : Nat → Prop}

end
end Go.Proofs.YtnmhlpnapgojjaaGreatDoor


namespace Go.Proofs.YtnmhlpnapgojjaaGreatDoor
open Go.RowKit Sx LexS _root_.Go.Proofs.Tryz
section
variable {S : Nat → Prop}
abbrev pgL (p : Pg) (os ol ot : Option Addr) (cs cl ct : Nat) : List Value := [.slice os p.shared.length cs, .slice ol p.locks.length cl, .slice ot p.threads.length ct]

set_option maxHeartbeats 1000000 in
theorem right_any (p : Pg) (os ol ot : Option Addr) (cs cl ct : Nat) (w : World) (hS : DcRow w S os p.shared) (hL : DcRow w S ol p.locks) (hT : ThRow w S ot p.threads) (hok : OkP p) (hsg : Sig w) : Ret Tryz.prog 38 [.agg (pgL p os ol ot cs cl ct).toArray] w fun v w' => v = .bool (pgOk p) ∧ Chg [] w w' := by
 refine ret_of [_] func38 rfl ntmps38 rfl ?_
 have st := St.init w []
 obtain ⟨w0, rfl⟩ : ∃ w0, w0 = w := ⟨_, rfl⟩
 have hn1 := hok.1.1
 have hn2 := hok.2.1.1
 have hn3 := hok.2.2.1
 refine sr ?_
 refine vc_e (e_bx (l := [_, _, _]) st rfl rfl rfl rfl ?_)
 intro b1 w hb1 st
 refine ya ?_
 refine et (vk1 1 (vc_seq (sr ?_)))
 refine vy (y_fa0 rfl underlying26 rfl rfl sizeOf23 rfl) ?_
 refine yl st 0 isAgg23 ?_
 refine vc_e (e_call [_, _] rfl rfl call92 rfl (decls_any p.shared _ _ true _ (RowC.kept hS st.sm) (by unfold maxLen; omega)) ?_)
 rintro _ w ⟨rfl, cw⟩
 replace st := st.call0 cw
 refine vy (y_not rfl) ?_
 refine vmb ?_ ?_
 ·intro hg9
  try simp only [dn] at hg9
  iterate 4 refine vsk ?_
  refine ypt ?_
  refine et (vk2 1 14 ?_)
  refine vc_ift rfl ?_
  refine sr ?_
  refine ya ?_
  refine et (vk1 2 (vc_ret (vq_then_ret ?_)))
  refine vr1 st results38 ?_
  refine ⟨?_, st.chg⟩
  show Value.bool _ = Value.bool _
  congr 1
  symm
  unfold pgOk
  clear st
  try simp only [show decide (1 ≤ 64) = true from rfl, Bool.true_and] at *
  (rw [‹p.shared.all (dcOk true) = false›]; simp; done)
 intro hg9
 try simp only [dn] at hg9
 refine yfz 1 underlying26 sizeOf23 ?_
 refine yl st 0 isAgg23 ?_
 refine vc_e (e_call [_, _] rfl rfl call92 rfl (decls_any p.locks _ _ false _ (RowC.kept hL st.sm) (by unfold maxLen; omega)) ?_)
 rintro _ w ⟨rfl, cw⟩
 replace st := st.call0 cw
 refine vy (y_not rfl) ?_
 refine ypf ?_
 refine et (vk2 1 14 ?_)
 refine vif ?_ ?_
 ·intro hc14
  try simp only [dn] at hc14
  refine sr ?_
  refine ya ?_
  refine et (vk1 2 (vc_ret (vq_then_ret ?_)))
  refine vr1 st results38 ?_
  refine ⟨?_, st.chg⟩
  show Value.bool _ = Value.bool _
  congr 1
  symm
  unfold pgOk
  clear st
  try simp only [show decide (1 ≤ 64) = true from rfl, Bool.true_and] at *
  (rw [‹p.locks.all (dcOk false) = false›]; simp; done)
 intro hc14
 try simp only [dn] at hc14
 refine kt (vk1 1 (vc_seq (sr ?_)))
 refine yfz 2 underlying26 sizeOf24 ?_
 refine yl st 0 isAgg24 ?_
 refine vy (y_lensl rfl underlying24) ?_
 refine ym ?_
 refine et (vk3 16 17 18 (vc_block ?_))
 refine vc_loop (w0 := w0) (M := []) (fun (j : Nat) => [(16, .slice ot p.threads.length ct), (17, .int .i64 (p.threads.length : Int)), (18, .int .i64 (j : Int))]) (fun _ => []) (fun j _ => j ≤ p.threads.length ∧ (p.threads.take j).all thOk = true) (fun j => p.threads.length - j) 0 ⟨rfl, rfl, rfl, trivial⟩ (st.dr) ⟨by omega, by simp⟩ ?_
 clear st
 rintro j w ⟨hj, hall⟩ st
 refine sr ?_
 refine vy (y_lss rfl rfl) ?_
 refine et (vk4 16 17 18 19 (vc_seq ?_))
 refine vif ?_ ?_
 ·intro hc19
  try simp only [dn] at hc19
  obtain ⟨t, htj⟩ : ∃ t, p.threads[j]? = some t := ⟨_, List.getElem?_eq_getElem (by omega)⟩
  obtain ⟨gb, go, rfl, hgS, hgl, hg⟩ := ThRow.at hT (by omega)
  obtain ⟨tl, tb, cll, cbb, htl, htb, hc⟩ := hg j t htj
  have hkt := hok.2.2.2 j t htj
  refine kt (vk3 16 17 18 (vc_seq (vc_block (sr ?_))))
  refine vy (y_ia (k := j) rfl rfl underlying24 sizeOf69 rfl (by omega)) ?_
  refine vy (y_ldca (thL t tl tb cll cbb) rfl isAgg69 sizeOf69 rfl (fun i v hi => st.chg.cell (hc i v hi) (by simp))) ?_
  refine vc_e (e_al (l := [_, _, _, _]) st rfl rfl zeroValue69 rfl ?_)
  intro b4 w hb4 st
  refine vc_e (ests st 0 [_, _, _, _] sizeOf69 ?_)
  intro w st; dsimp only [setNth, wr] at st
  refine et (vk4 4 16 17 18 (sr ?_))
  refine vy (y_fa0 rfl underlying69 rfl rfl sizeOf9 rfl) ?_
  refine yl st 0 isAgg9 ?_
  refine vc_e (e_call [_] rfl rfl call52 rfl (name_any _ _) ?_)
  rintro _ _ ⟨rfl, rfl⟩
  refine vy (y_not rfl) ?_
  refine vmb ?_ ?_
  ·intro hg26
   try simp only [dn] at hg26
   iterate 4 refine vsk ?_
   refine ypt ?_
   refine ym ?_
   iterate 4 refine vsk ?_
   refine ypt ?_
   refine et (vk4 16 17 18 37 ?_)
   refine vc_ift rfl ?_
   refine sr ?_
   refine ya ?_
   refine et (vk1 2 (vc_ret (vq_block_ret (vq_then_ret (vq_then_ret (vq_block_ret (vq_then_ret ?_)))))))
   refine vr1 st results38 ?_
   refine ⟨?_, st.chg⟩
   show Value.bool _ = Value.bool _
   congr 1
   symm
   unfold pgOk
   clear st
   try simp only [show decide (1 ≤ 64) = true from rfl, Bool.true_and] at *
   (rw [all_no' (p := thOk) htj (by unfold thOk; simp only [*, Bool.and_false, Bool.false_and, Bool.and_true, Bool.true_and])]; simp)
  intro hg26
  try simp only [dn] at hg26
  refine yfz 1 underlying69 sizeOf23 ?_
  refine yl st 0 isAgg23 ?_
  refine vc_e (e_call [_, _] rfl rfl call92 rfl (decls_any t.locals _ _ false _ (RowC.kept htl st.sm) (by have := hkt.1.1; unfold maxLen; omega)) ?_)
  rintro _ w ⟨rfl, cw⟩
  replace st := st.call0 cw
  refine vy (y_not rfl) ?_
  refine ypf ?_
  refine vmb ?_ ?_
  ·intro hg32
   try simp only [dn] at hg32
   iterate 4 refine vsk ?_
   refine ypt ?_
   refine et (vk4 16 17 18 37 ?_)
   refine vc_ift rfl ?_
   refine sr ?_
   refine ya ?_
   refine et (vk1 2 (vc_ret (vq_block_ret (vq_then_ret (vq_then_ret (vq_block_ret (vq_then_ret ?_)))))))
   refine vr1 st results38 ?_
   refine ⟨?_, st.chg⟩
   show Value.bool _ = Value.bool _
   congr 1
   symm
   unfold pgOk
   clear st
   try simp only [show decide (1 ≤ 64) = true from rfl, Bool.true_and] at *
   (rw [all_no' (p := thOk) htj (by unfold thOk; simp only [*, Bool.and_false, Bool.false_and, Bool.and_true, Bool.true_and])]; simp)
  intro hg32
  try simp only [dn] at hg32
  refine yfz 2 underlying69 sizeOf65 ?_
  refine yl st 0 isAgg65 ?_
  refine vc_e (e_call [_, _] rfl rfl call93 rfl (stmts_any _ t.body rfl 1 (by omega) (.inr (by omega)) _ _ _ (htb.kept st.sm) hkt.2.1 (hsg.kept st.chg)) ?_)
  rintro _ w ⟨rfl, cw⟩
  replace st := st.call0 cw
  refine vy (y_not rfl) ?_
  refine ypf ?_
  refine et (vk4 16 17 18 37 ?_)
  refine vif ?_ ?_
  ·intro hc37
   try simp only [dn] at hc37
   refine sr ?_
   refine ya ?_
   refine et (vk1 2 (vc_ret (vq_block_ret (vq_then_ret (vq_then_ret (vq_block_ret (vq_then_ret ?_)))))))
   refine vr1 st results38 ?_
   refine ⟨?_, st.chg⟩
   show Value.bool _ = Value.bool _
   congr 1
   symm
   unfold pgOk
   clear st
   try simp only [show decide (1 ≤ 64) = true from rfl, Bool.true_and] at *
   (rw [all_no' (p := thOk) htj (by unfold thOk; simp only [*, Bool.and_false, Bool.false_and, Bool.and_true, Bool.true_and])]; simp)
  intro hc37
  try simp only [dn] at hc37
  refine vc_code_skip (vq_block (vq_then (vk3 16 17 18 (vc_region ?_))))
  refine vy (y_add rfl rfl (by omega : _ = ((j + 1 : Nat) : Int)) (by omega) (by omega)) ?_
  refine ym ?_
  refine vc_end ?_
  refine vq_again (j + 1)  ⟨rfl, rfl, rfl, trivial⟩ (st.dr) ?_ ?_
  ·exact ⟨by omega, all_take' hall htj (by unfold thOk; clear st; (try simp only [show decide (1 ≤ 64) = true from rfl, Bool.true_and] at *); simp only [*, Bool.and_self])⟩
  omega
 intro hc19
 try simp only [dn] at hc19
 refine vc_exit (vq_then_exit (vq_then_exit (vq_block_exit (vq_then (vc_keep [] trivial (sr ?_))))))
 refine ya ?_
 refine et (vk1 2 (vc_ret ?_))
 refine vr1 st results38 ?_
 refine ⟨?_, st.chg⟩
 show Value.bool _ = Value.bool _
 congr 1
 symm
 unfold pgOk
 clear st
 try simp only [show decide (1 ≤ 64) = true from rfl, Bool.true_and] at *
 (rw [‹p.shared.all (dcOk true) = true›, ‹p.locks.all (dcOk false) = true›, all_end hall (by omega)]; rfl)
end
end Go.Proofs.YtnmhlpnapgojjaaGreatDoor


namespace Go.Proofs.YtnmhlpnapgojjaaGreatDoor
open Go.RowKit Sx LexS _root_.Go.Proofs.Tryz
def thsT (ts : List Th) : List UInt8 := (ts.map thT).flatten
theorem thsT_succ {ts : List Th} {j : Nat} {t : Th} (h : ts[j]? = some t) : thsT (ts.take (j + 1)) = thsT (ts.take j) ++ thT t := by
 obtain ⟨hj, e⟩ := List.getElem?_eq_some_iff.1 h
 unfold thsT
 rw [List.take_succ_eq_append_getElem hj, e]
 simp
theorem thsT_split (ts : List Th) (j : Nat) : thsT ts = thsT (ts.take j) ++ thsT (ts.drop j) := by
 unfold thsT
 rw [← List.flatten_append, ← List.map_append, List.take_append_drop]
def pgH (p : Pg) : List UInt8 := dcsT [115, 104, 97, 114, 101, 100] 0 p.shared ++ dcsT [108, 111, 99, 107] 0 p.locks
theorem pgT_eq (p : Pg) : pgT p = pgH p ++ thsT p.threads := rfl
theorem pgT_le (p : Pg) (j : Nat) : (pgH p ++ thsT (p.threads.take j)).length ≤ (pgT p).length := by
 rw [pgT_eq, thsT_split p.threads j]; simp
theorem pgRes_no {p : Pg} (h : pgOk p = false) : pgRes p = ([], 40) := by unfold pgRes; rw [h]; rfl
theorem pgRes_long {p : Pg} (h : pgOk p = true) (hl : 65536 < (pgT p).length) : pgRes p = ([], 4) := by unfold pgRes; rw [if_pos h, if_neg (by omega)]
theorem pgRes_ok {p : Pg} (h : pgOk p = true) (hl : (pgT p).length ≤ 65536) : pgRes p = (pgT p, 0) := by unfold pgRes; rw [if_pos h, if_pos hl]
theorem WS.yes {l F : List UInt8} (h : WS l false F) : l = F ∧ F.length ≤ 65536 := by
 rcases h with ⟨_, h1, h2⟩ | ⟨h, _⟩
 ·exact ⟨h1, h2⟩
 ·cases h
theorem WS.long {l F : List UInt8} (h : WS l true F) : 65536 < F.length := by
 rcases h with ⟨h, _⟩ | ⟨_, h, _⟩
 ·cases h
 ·exact h
theorem pgOk_inv {p : Pg} (h : pgOk p = true) : p.shared.all (dcOk true) = true ∧ p.locks.all (dcOk false) = true ∧ ∀ (j : Nat) t, p.threads[j]? = some t → isName t.nm = true ∧ t.locals.all (dcOk false) = true ∧ rightSs t.body 1 = true := by
 unfold pgOk at h
 simp only [Bool.and_eq_true] at h
 refine ⟨h.1.1, h.1.2, fun j t hj => ?_⟩
 have := List.all_eq_true.1 h.2 t (List.mem_of_getElem? hj)
 unfold thOk at this
 simp only [Bool.and_eq_true] at this
 exact ⟨this.1.1, this.1.2, this.2⟩
end Go.Proofs.YtnmhlpnapgojjaaGreatDoor

