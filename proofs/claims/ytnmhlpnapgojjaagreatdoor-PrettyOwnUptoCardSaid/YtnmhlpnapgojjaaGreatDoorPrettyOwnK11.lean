/- A part of the proof: contracts of functions and plain laws; each theorem says its own conditions. -/
import Derived.Sort.OwnSorted
import Derived.Sort.KeysCollected
import Derived.Test.YtnmhlpnapgojjaaGreatDoorPrettyOwnK1
import Derived.Test.YtnmhlpnapgojjaaGreatDoorPrettyOwnK10
import Derived.Test.YtnmhlpnapgojjaaGreatDoorPrettyOwnTryzShelfP
import Derived.Test.YtnmhlpnapgojjaaGreatDoorPrettyOwnK2
import Derived.Test.YtnmhlpnapgojjaaGreatDoorPrettyOwnK5
set_option linter.unusedVariables false
set_option linter.unusedSimpArgs false
namespace Go.Proofs.YtnmhlpnapgojjaaGreatDoor
open Go.RowKit Sx LexS _root_.Go.Proofs.Tryz
abbrev sortW (l : List Wd) : List Wd := l.mergeSort (fun x y => decide (x ≤ y))
theorem sort_any (base : Nat) (ss : List Wd) (oa : Option Addr) (cap : Nat) (w : World) (hn : ss.length ≤ 4398046511104) (ho : w.ownsRow base 9 1 (.slice oa ss.length cap) ss.length (ss.map str)) :
    Ret Tryz.prog 64 [.slice oa ss.length cap] w fun v w' => v = .tuple #[] ∧ w'.ownsRow base 9 1 (.slice oa ss.length cap) ss.length ((sortW ss).map str) ∧ Chg (Value.slice oa ss.length cap).ownBlock.toList w w' := by
 rcases ho.2 with ⟨hnil, h0⟩ | ⟨g, cap', cur, hv, hbase, hb, h1, h2, h3, h4⟩
 ·have hs : ss = [] := List.length_eq_zero_iff.1 h0
  subst hs
  refine (Tryz.slices_Sort_string_none oa cap w).mono ?_
  rintro e w' ⟨rfl, rfl⟩
  exact ⟨_, rfl, rfl, by simpa [sortW] using ho, Chg.refl _ _⟩
 ·simp only [Value.slice.injEq] at hv
  obtain ⟨rfl, -, rfl⟩ := hv
  refine (Tryz.slices_Sort_string g 0 cap ss w (holds_of_block hb (by simpa using h4)) (Array.getElem?_eq_some_iff.1 hb).1 (by omega)).mono ?_
  rintro e w' ⟨rfl, n, os, rfl⟩
  exact ⟨_, rfl, rfl, ownsRow_sorted (by simp [sortW]) hbase hb h1 h2 h3, Chg.of_grownBy (grownBy_sorted _)⟩
end Go.Proofs.YtnmhlpnapgojjaaGreatDoor


namespace Go.Proofs.YtnmhlpnapgojjaaGreatDoor
open Go.RowKit Sx LexS _root_.Go.Proofs.Tryz
/-- the keys behind the declarations -/
abbrev kD (p : Pg) : List Wd := addAll ((p.shared ++ p.locks).map (·.nm)) []
abbrev kT (p : Pg) (j : Nat) : List Wd := addAll ((p.threads.take j).flatMap nmsT) (kD p)
abbrev kAll (p : Pg) : List Wd := addAll (nmsP p) []
theorem kT_all (p : Pg) : kT p p.threads.length = kAll p := by rw [kT, List.take_length, kD, kAll, nmsP, addAll_app]
theorem sort_perm {p : Pg} {l : List Wd} (h : l.Perm (kAll p)) : sortW l = namesL p := mergeSort_of_perm h
theorem addAll_len (l : List Wd) : ∀ ks : List Wd, (addAll l ks).length ≤ l.length + ks.length := by
 induction l with
 | nil => intro ks; simp [addAll_nil]
 | cons s r ih =>
  intro ks
  have h1 : (addK s ks).length ≤ ks.length + 1 := by unfold addK insK; split <;> (try split) <;> simp
  have := ih (addK s ks)
  rw [addAll_cons]; simp; omega

set_option maxHeartbeats 4000000 in
theorem names_any {S : Nat → Prop} (p : Pg) (hok : OkP p) (os ol ot : Option Addr) (cs cl ct : Nat) (w : World) (hS : ∀ b, S b → b < w.heap.size) (hSh : DcRow w S os p.shared) (hL : DcRow w S ol p.locks) (hT : ThRow w S ot p.threads) (hlen : (nmsP p).length ≤ 4398046511104) :
    Ret Tryz.prog 21 [.agg (pgL p os ol ot cs cl ct).toArray] w fun v w' => ∃ oa cap, v = .slice oa (namesL p).length cap ∧ w'.ownsRow w.heap.size 9 1 (.slice oa (namesL p).length cap) (namesL p).length ((namesL p).map str) ∧ Chg [] w w' := by
 refine ret_of [_] func21 rfl ntmps21 rfl ?_
 have st := St.init w []
 obtain ⟨w0, rfl⟩ : ∃ w0, w0 = w := ⟨_, rfl⟩
 have hn1 := hok.1.1
 have hn2 := hok.2.1.1
 have hn3 := hok.2.2.1
 have hnn : (p.shared ++ p.locks).length ≤ 2199023255552 := by rw [List.length_append]; omega
 refine vc_seq (vc_region ?_)
 refine vc_e (e_bx (l := [_, _, _]) st rfl rfl rfl rfl ?_)
 intro b1 w hb1 st
 refine ya ?_
 refine vc_end (vq_then (vk1 1 (vc_seq (vc_region ?_))))
 refine vc_e (e_mkm st rfl rfl ?_)
 intro b15 w hb15 st
 refine vc_e (e_al (l := [_]) st rfl rfl zeroValue100 rfl ?_)
 intro b3 w hb3 st
 refine vc_e (e_st st 0 rfl rfl rfl rfl sizeOf100 rfl rfl (by (right; assumption)) ?_)
 intro w st; dsimp only [setNth, wr] at st
 refine vc_end (vq_then (vk2 1 3 (vc_seq (vc_region ?_))))
 refine vy (y_mf [] [_] rfl rfl) ?_
 refine vc_e (e_al (l := [_]) st rfl rfl zeroValue101 rfl ?_)
 intro b4 w hb4 st
 refine vc_e (e_st st 0 rfl rfl rfl rfl sizeOf101 rfl rfl (by (right; assumption)) ?_)
 intro w st; dsimp only [setNth, wr] at st
 refine vc_end (vq_then (vk3 1 3 4 (vc_seq (vc_region ?_))))
 refine vc_e (e_al (l := [_]) st rfl rfl zeroValue102 rfl ?_)
 intro b5 w hb5 st
 refine vc_end (vq_then (vk4 1 3 4 5 (vc_seq (vc_region ?_))))
 refine vy (y_mf [] [_, _] rfl rfl) ?_
 refine vc_e (e_st st 0 rfl rfl rfl rfl sizeOf102 rfl rfl (by (right; assumption)) ?_)
 intro w st; dsimp only [setNth, wr] at st
 refine vc_end (vq_then (vk4 1 3 4 5 (vc_seq (vc_region ?_))))
 refine vc_e (e_al (l := [_]) st rfl rfl zeroValue103 rfl ?_)
 intro b6 w hb6 st
 refine vc_end (vq_then (vk5 1 3 4 5 6 (vc_seq (vc_region ?_))))
 refine vy (y_mf [] [_, _, _] rfl rfl) ?_
 refine vc_e (e_st st 0 rfl rfl rfl rfl sizeOf103 rfl rfl (by (right; assumption)) ?_)
 intro w st; dsimp only [setNth, wr] at st
 refine vc_end (vq_then (vk4 1 3 4 6 (vc_seq (vc_seq (vc_region ?_)))))
 obtain ⟨e, he⟩ : ∃ e : NEnv, e = ⟨b15, b3, b4, b5, b6⟩ := ⟨_, rfl⟩
 obtain ⟨rfl, rfl, rfl, rfl, rfl⟩ : b15 = e.b ∧ b3 = e.bm ∧ b4 = e.bf ∧ b5 = e.be ∧ b6 = e.bs := by subst he; exact ⟨rfl, rfl, rfl, rfl, rfl⟩
 have hge : w0.heap.size ≤ e.b := by assumption
 replace st := st.joinN 4 (q := .tree e.E e.ins) (by
   intro k hk
   simp only [Res.at?, NEnv.E, List.mem_cons, List.not_mem_nil, or_false] at hk
   rcases hk with rfl | rfl | rfl | rfl
   · exact ⟨_, .tail _ (.tail _ (.tail _ (.head _))), .head _⟩
   · exact ⟨_, .tail _ (.tail _ (.head _)), .head _⟩
   · exact ⟨_, .tail _ (.head _), .head _⟩
   · exact ⟨_, .head _, .head _⟩) (by
   have h : e.ins w := ⟨st.res (i := 3) rfl, st.res (i := 2) rfl, st.res (i := 1) rfl, st.res (i := 0) rfl⟩
   exact ⟨h, h.lt, NEnv.ins.loc⟩)
 dsimp only [List.drop] at st
 have hd : e.b ∉ e.E := fun hk => st.ne (i := 1) (j := 0) (by decide) rfl rfl _ (.head _) hk
 refine vy (y_fa0 rfl underlying26 rfl rfl sizeOf23 rfl) ?_
 refine yl st 2 isAgg23 ?_
 refine yfz 1 underlying26 sizeOf23 ?_
 refine yl st 2 isAgg23 ?_
 refine vc_e (e_bsn (l := [.slice os p.shared.length cs, .slice ol p.locks.length cl]) (E := 23) st [(0, _), (1, _)] rfl rfl rfl (fun w => by simp [Instr.buildSlice, run_underlying underlying153, sizeOf23, zeroValue23, Instr.fill, newRow, newObj, Sem.run, go_sem]) ?_)
 intro b23 w hb23 st
 refine vc_e (e_call [_] rfl rfl call63 rfl (concatD_any (S := S) [(os, p.shared, cs), (ol, p.locks, cl)] (by simp [DsF]; omega) (by simp) b23 _ _ (fun j x hx => by rcases j with _ | _ | j <;> simp at hx <;> subst hx <;> exact cell_nth (st.res (i := 0) rfl) rfl) (fun j x hx => by rcases j with _ | _ | j <;> simp at hx <;> subst hx; exact RowC.kept hSh (Same.of_nil st.chg); exact RowC.kept hL (Same.of_nil st.chg))) ?_)
 rintro _ w ⟨oq, cq, Sq, rfl, hq, hnq, hc⟩
 have hDs : DsF [(os, p.shared, cs), (ol, p.locks, cl)] = p.shared ++ p.locks := by simp [DsF]
 rw [hDs] at hq ⊢
 replace st := st.pushR (r := .tree Sq (fun w => DcRQ w oq cq (p.shared ++ p.locks) Sq)) hc ⟨hq, hq.lt, loc_of fun a b h hk => h.kept hk⟩ hnq.2
 refine vy (y_lensl rfl underlying23) ?_
 refine ym ?_
 refine vc_end (vq_then (vk7 1 3 4 6 24 25 26 (vc_block ?_)))
 refine vc_loop (w0 := w0) (M := []) (fun (j : Nat) => [(1, .pointer (some ⟨b1, 0, none⟩)), (3, e.pm), (4, e.pf), (6, e.ps), (24, .slice oq (p.shared ++ p.locks).length cq), (25, .int .i64 ((p.shared ++ p.locks).length : Int)), (26, .int .i64 (j : Int))]) (fun j => [.tree e.E e.ins, .tree [e.b] (fun w => MapK w e.b (addAll (((p.shared ++ p.locks).take j).map (·.nm)) [])), .tree Sq (fun w => DcRQ w oq cq (p.shared ++ p.locks) Sq), .blk b1 (.cells (pgL p os ol ot cs cl ct).toArray 26 (0, 0))]) (fun j _ => j ≤ (p.shared ++ p.locks).length) (fun j => (p.shared ++ p.locks).length - j) 0 ⟨rfl, rfl, rfl, rfl, rfl, rfl, rfl, trivial⟩ (st.pick [2, 3, 0, 4] rfl (by decide)) (by omega) ?_
 clear st
 rintro j w hj st
 refine vc_seq (vc_region ?_)
 refine vy (y_lss rfl rfl) ?_
 refine vc_end (vq_then (vk8 1 3 4 6 24 25 26 27 (vc_seq ?_)))
 refine vc_ifs rfl ?_ ?_
 ·intro hc27
  try simp only [dn] at hc27
  obtain ⟨x, hx⟩ : ∃ x, (p.shared ++ p.locks)[j]? = some x := ⟨_, List.getElem?_eq_getElem (by omega)⟩
  have hR := DcR.toRow (T := fun b => b ∈ Sq) (st.res (i := 2) rfl).1 (fun b hb => hb)
  have stK := st
  obtain ⟨gb, go, rfl, hgS, hgl, hg⟩ := DcRow.at hR (by omega)
  have hc := hg j x hx
  have st := stK
  clear stK
  refine vc_code_skip (vq_then (vk7 1 3 4 6 24 25 26 (vc_seq (vc_block (vc_seq (vc_region ?_))))))
  refine vy (y_ia (k := j) rfl rfl underlying23 sizeOf63 rfl (by omega)) ?_
  refine vy (y_ldca (dcL x) rfl isAgg63 sizeOf63 rfl (fun i v hi => hc i v hi)) ?_
  refine vc_e (e_al (l := [_, _, _]) st rfl rfl zeroValue63 rfl ?_)
  intro b8 w hb8 st
  refine vc_e (e_sts (vs := [_, _, _]) st 0 rfl rfl rfl rfl rfl sizeOf63 rfl rfl (by (right; assumption)) ?_)
  intro w st; dsimp only [setNth, wr] at st
  refine vc_end (vq_then (vk8 1 3 4 6 8 24 25 26 (vc_region ?_)))
  refine vy (y_ldc rfl isAgg101 (cell_nth (st.res (i := 1) rfl).1.f rfl)) ?_
  refine vy (y_fa0 rfl underlying63 rfl rfl sizeOf9 rfl) ?_
  refine yl st 0 isAgg9 ?_
  refine vc_e (e_callv [_] rfl rfl rfl call60 rfl (add_any e hd x.nm _ _ (st.res (i := 2) rfl).1 (st.res (i := 1) rfl).1) ?_)
  rintro _ w ⟨rfl, hm, hc⟩
  replace st := st.turn (i := 2) (r' := .tree [e.b] (fun w => MapK w e.b _)) rfl rfl rfl hc (.inr hge) ⟨hm, by simpa using hm.lt, Loc_MapK _ _⟩
  dsimp only [setNth] at st
  refine vc_end (vq_block (vq_then (vk7 1 3 4 6 24 25 26 (vc_region ?_))))
  refine vy (y_add rfl rfl (by omega : _ = ((j + 1 : Nat) : Int)) (by omega) (by omega)) ?_
  refine ym ?_
  refine vc_end ?_
  refine vq_again (j + 1)  ⟨rfl, rfl, rfl, rfl, rfl, rfl, rfl, trivial⟩ (by rw [map_step hx, addAll_app]; exact st.pick [1, 2, 3, 4] rfl (by decide)) ?_ ?_
  ·omega
  ·omega
 ·intro hc27
  try simp only [dn] at hc27
  obtain rfl : j = (p.shared ++ p.locks).length := by omega
  rw [List.take_length] at st
  refine vc_exit (vq_then_exit (vq_then_exit (vq_block_exit (vq_then (vk4 1 3 4 6 (vc_seq (vc_seq (vc_region ?_))))))))
  refine yfz 2 underlying26 sizeOf24 ?_
  refine yl st 3 isAgg24 ?_
  refine vy (y_lensl rfl underlying24) ?_
  refine ym ?_
  refine vc_end (vq_then (vk6 3 4 6 36 37 38 (vc_block ?_)))
  refine vc_loop (w0 := w0) (M := []) (fun (j : Nat) => [(3, e.pm), (4, e.pf), (6, e.ps), (36, .slice ot p.threads.length ct), (37, .int .i64 (p.threads.length : Int)), (38, .int .i64 (j : Int))]) (fun j => [.tree e.E e.ins, .tree [e.b] (fun w => MapK w e.b (kT p j))]) (fun j _ => j ≤ p.threads.length) (fun j => p.threads.length - j) 0 ⟨rfl, rfl, rfl, rfl, rfl, rfl, trivial⟩ (st.pick [0, 1] rfl (by decide)) (by omega) ?_
  clear st
  rintro j w hj st
  refine vc_seq (vc_region ?_)
  refine vy (y_lss rfl rfl) ?_
  refine vc_end (vq_then (vk7 3 4 6 36 37 38 39 (vc_seq ?_)))
  refine vc_ifs rfl ?_ ?_
  ·intro hc39
   try simp only [dn] at hc39
   have stK := st
   obtain ⟨t, htj⟩ : ∃ t, p.threads[j]? = some t := ⟨_, List.getElem?_eq_getElem (by omega)⟩
   obtain ⟨gb, go, rfl, hgS, hgl, hg⟩ := ThRow.at hT (by omega)
   obtain ⟨tl, tb, cll, cbb, htl, htb, hc⟩ := hg j t htj
   have hkt := hok.2.2.2 j t htj
   have hkl := hkt.1.1
   have st := stK
   clear stK
   refine vc_code_skip (vq_then (vk6 3 4 6 36 37 38 (vc_seq (vc_block (vc_seq (vc_region ?_))))))
   refine vy (y_ia (k := j) rfl rfl underlying24 sizeOf69 rfl (by omega)) ?_
   refine vy (y_ldca (thL t tl tb cll cbb) rfl isAgg69 sizeOf69 rfl (fun i v hi => st.chg.cell (hc i v hi) (by simp))) ?_
   refine vc_e (e_al (l := [_, _, _, _]) st rfl rfl zeroValue69 rfl ?_)
   intro b10 w hb10 st
   refine vc_e (e_sts (vs := [_, _, _, _]) st 0 rfl rfl rfl rfl rfl sizeOf69 rfl rfl (by (right; assumption)) ?_)
   intro w st; dsimp only [setNth, wr] at st
   refine vc_end (vq_then (vk7 3 4 6 10 36 37 38 (vc_seq (vc_region ?_))))
   refine vy (y_ldc rfl isAgg101 (cell_nth (st.res (i := 1) rfl).1.f rfl)) ?_
   refine vy (y_fa0 rfl underlying69 rfl rfl sizeOf9 rfl) ?_
   refine yl st 0 isAgg9 ?_
   refine vc_e (e_callv [_] rfl rfl rfl call60 rfl (add_any e hd t.nm _ _ (st.res (i := 2) rfl).1 (st.res (i := 1) rfl).1) ?_)
   rintro _ w ⟨rfl, hm, hc⟩
   replace st := st.turn (i := 2) (r' := .tree [e.b] (fun w => MapK w e.b _)) rfl rfl rfl hc (.inr hge) ⟨hm, by simpa using hm.lt, Loc_MapK _ _⟩
   dsimp only [setNth] at st
   refine vc_end (vq_then (vk7 3 4 6 10 36 37 38 (vc_seq (vc_seq (vc_region ?_)))))
   refine yfz 1 underlying69 sizeOf23 ?_
   refine yl st 0 isAgg23 ?_
   refine vy (y_lensl rfl underlying23) ?_
   refine ym ?_
   refine vc_end (vq_then (vk10 3 4 6 10 36 37 38 47 48 49 (vc_block ?_)))
   refine vc_loop (w0 := w0) (M := []) (fun (i : Nat) => [(3, e.pm), (4, e.pf), (6, e.ps), (10, .pointer (some ⟨b10, 0, none⟩)), (36, .slice (some ⟨gb, go, none⟩) p.threads.length ct), (37, .int .i64 (p.threads.length : Int)), (38, .int .i64 (j : Int)), (47, .slice tl t.locals.length cll), (48, .int .i64 (t.locals.length : Int)), (49, .int .i64 (i : Int))]) (fun i => [.blk b10 (.cells (thL t tl tb cll cbb).toArray 69 (0, 0)), .tree e.E e.ins, .tree [e.b] (fun w => MapK w e.b (addAll ((t.locals.take i).map (·.nm)) (addK t.nm (kT p j))))]) (fun i _ => i ≤ t.locals.length) (fun i => t.locals.length - i) 0 ⟨rfl, rfl, rfl, rfl, rfl, rfl, rfl, rfl, rfl, rfl, trivial⟩ st (by omega) ?_
   clear st
   rintro i w hi st
   refine vc_seq (vc_region ?_)
   refine vy (y_lss rfl rfl) ?_
   refine vc_end (vq_then (vc_keep [(3, _), (4, _), (6, _), (10, _), (36, _), (37, _), (38, _), (47, _), (48, _), (49, _), (50, _)] ⟨rfl, rfl, rfl, rfl, rfl, rfl, rfl, rfl, rfl, rfl, rfl, trivial⟩ (vc_seq ?_)))
   refine vc_ifs rfl ?_ ?_
   ·intro hc50
    try simp only [dn] at hc50
    have stK := st
    obtain ⟨x, hx⟩ : ∃ x, t.locals[i]? = some x := ⟨_, List.getElem?_eq_getElem (by omega)⟩
    obtain ⟨lb, lo, rfl, hlS, hll, hlg⟩ := DcRow.at htl (by omega)
    have hlc := hlg i x hx
    have st := stK
    clear stK
    refine vc_code_skip (vq_then (vk10 3 4 6 10 36 37 38 47 48 49 (vc_seq (vc_block (vc_seq (vc_region ?_))))))
    refine vy (y_ia (k := i) rfl rfl underlying23 sizeOf63 rfl (by omega)) ?_
    refine vy (y_ldca (dcL x) rfl isAgg63 sizeOf63 rfl (fun i v hi => st.chg.cell (hlc i v hi) (by simp))) ?_
    refine vc_e (e_al (l := [_, _, _]) st rfl rfl zeroValue63 rfl ?_)
    intro b12 w hb12 st
    refine vc_e (e_sts (vs := [_, _, _]) st 0 rfl rfl rfl rfl rfl sizeOf63 rfl rfl (by (right; assumption)) ?_)
    intro w st; dsimp only [setNth, wr] at st
    refine vc_end (vq_then (vc_keep [(3, _), (4, _), (6, _), (10, _), (12, _), (36, _), (37, _), (38, _), (47, _), (48, _), (49, _)] ⟨rfl, rfl, rfl, rfl, rfl, rfl, rfl, rfl, rfl, rfl, rfl, trivial⟩ (vc_region ?_)))
    refine vy (y_ldc rfl isAgg101 (cell_nth (st.res (i := 2) rfl).1.f rfl)) ?_
    refine vy (y_fa0 rfl underlying63 rfl rfl sizeOf9 rfl) ?_
    refine yl st 0 isAgg9 ?_
    refine vc_e (e_callv [_] rfl rfl rfl call60 rfl (add_any e hd x.nm _ _ (st.res (i := 3) rfl).1 (st.res (i := 2) rfl).1) ?_)
    rintro _ w ⟨rfl, hm, hc⟩
    replace st := st.turn (i := 3) (r' := .tree [e.b] (fun w => MapK w e.b _)) rfl rfl rfl hc (.inr hge) ⟨hm, by simpa using hm.lt, Loc_MapK _ _⟩
    dsimp only [setNth] at st
    refine vc_end (vq_block (vq_then (vk10 3 4 6 10 36 37 38 47 48 49 (vc_region ?_))))
    refine vy (y_add rfl rfl (by omega : _ = ((i + 1 : Nat) : Int)) (by omega) (by omega)) ?_
    refine ym ?_
    refine vc_end ?_
    refine vq_again (i + 1)  ⟨rfl, rfl, rfl, rfl, rfl, rfl, rfl, rfl, rfl, rfl, trivial⟩ (by rw [map_step hx, addAll_app]; exact st.pick [1, 2, 3] rfl (by decide)) ?_ ?_
    ·omega
    ·omega
   ·intro hc50
    try simp only [dn] at hc50
    obtain rfl : i = t.locals.length := by omega
    rw [List.take_length] at st
    refine vc_exit (vq_then_exit (vq_then_exit (vq_block_exit (vq_then (vk7 3 4 6 10 36 37 38 (vc_region ?_))))))
    refine vy (y_ldc rfl isAgg103 (cell_nth (st.res (i := 1) rfl).1.s rfl)) ?_
    refine yfz 2 underlying69 sizeOf65 ?_
    refine yl st 0 isAgg65 ?_
    refine vc_e (e_callv [_] rfl rfl rfl call62 rfl (nsl_any (S := S) e hd (fun hh => by have := hS _ hh; omega) _ t.body rfl hkt.2.1 _ _ _ _ (htb.kept (Same.of_nil st.chg)) (st.res (i := 2) rfl).1 (st.res (i := 1) rfl).1) ?_)
    rintro _ w ⟨rfl, hm, hc⟩
    replace st := st.turn (i := 2) (r' := .tree [e.b] (fun w => MapK w e.b _)) rfl rfl rfl hc (.inr hge) ⟨hm, by simpa using hm.lt, Loc_MapK _ _⟩
    dsimp only [setNth] at st
    refine vc_end (vq_block (vq_then (vk6 3 4 6 36 37 38 (vc_region ?_))))
    refine vy (y_add rfl rfl (by omega : _ = ((j + 1 : Nat) : Int)) (by omega) (by omega)) ?_
    refine ym ?_
    refine vc_end ?_
    refine vq_again (j + 1)  ⟨rfl, rfl, rfl, rfl, rfl, rfl, trivial⟩ (by show St _ _ [_, .tree [e.b] (fun w => MapK w e.b (addAll ((p.threads.take (j + 1)).flatMap nmsT) (kD p)))] _; rw [flat_step htj, addAll_app, nmsT, addAll_app, List.singleton_append, addAll_cons]; exact st.pick [1, 2] rfl (by decide)) ?_ ?_
    ·omega
    ·omega
  ·intro hc39
   try simp only [dn] at hc39
   obtain rfl : j = p.threads.length := by omega
   rw [kT_all] at st
   have hK : (kAll p).length ≤ 4398046511104 := by have := addAll_len (nmsP p) []; simp at this; exact Nat.le_trans this hlen
   refine vc_exit (vq_then_exit (vq_then_exit (vq_block_exit (vq_then (vk1 3 (vc_seq (vc_region ?_)))))))
   refine ya ?_
   refine vc_end (vq_then (vk2 3 13 (vc_seq (vc_seq (vc_region ?_)))))
   refine vy (y_ldc rfl isAgg100 (cell_nth (st.res (i := 0) rfl).1.m rfl)) ?_
   refine vc_e (e_rg st 1 rfl rfl rfl rfl underlying100 ?_)
   intro r64 w hr64 hne64 st; dsimp only [setNth] at st
   refine vc_end (vq_then (vk2 13 64 (vc_block ?_)))
   refine vc_loop (w0 := w0) (M := []) (fun (z : Option Addr × Nat × List Wd) => [(13, .slice z.1 z.2.2.length z.2.1), (64, .pointer (some ⟨r64, 0, none⟩))]) (fun z => [.own (.slice z.1 z.2.2.length z.2.1) 9 1 z.2.2.length (z.2.2.map str), .tree [e.b, r64] (fun w => IterK w e.b r64 (kAll p) z.2.2)]) (fun z _ => z.2.2.length ≤ (kAll p).length) (fun z => (kAll p).length - z.2.2.length) (none, 0, []) ⟨rfl, rfl, trivial⟩ ((st.ownNil 9 1).pick [0, 2] rfl (by decide)) (by simp) ?_
   clear st
   rintro ⟨o13, c13, dn⟩ w hdl st
   dsimp only at *
   refine vc_seq (vc_region ?_)
   refine vc_e (e_nx st 1 rfl rfl rfl rfl (by assumption) (by (right; assumption)) ?_)
   intro t65 rest65 dn65 w hF65 hT65 st; dsimp only [setNth] at st
   refine vy (y_ext rfl rfl) ?_
   refine vc_end (vq_then (vk3 13 64 66 (vc_seq ?_)))
   refine vc_ifs rfl ?_ ?_
   ·intro hc66
    try simp only [dn] at hc66
    obtain ⟨s, rfl, hlt⟩ := hT65 hc66
    refine vc_code_skip (vq_then (vk2 13 64 (vc_block (vc_seq (vc_region ?_)))))
    refine vc_e (e_en st 1 rfl rfl rfl rfl ?_)
    intro c67
    refine vy (y_ext rfl rfl) ?_
    refine ya ?_
    refine vc_end (vq_then (vk3 13 14 64 (vc_region ?_)))
    iterate 2 refine ym ?_
    refine vc_e (e_bs1 (l := [_]) st rfl rfl rfl rfl underlying50 sizeOf9 rfl rfl rfl zeroValue9 ?_)
    intro b71 w hb71 st
    refine vc_e (e_app (bytes := 16) st 1 0 rfl rfl rfl rfl rfl rfl underlying50 Tryz.info9 rfl rfl rfl rfl rfl (by simp) rfl rfl (by unfold maxLen; omega) (by omega) ?_)
    intro oa72 cap72 w st; dsimp only [setNth] at st
    refine ya ?_
    refine vc_end (vq_block ?_)
    refine vq_again (oa72, cap72, dn ++ [s])  ⟨by rw [show (dn ++ [s]).length = dn.length + 1 by simp]; rfl, rfl, trivial⟩ (by rw [show (dn ++ [s]).length = dn.length + 1 by simp, List.map_append]; exact st.pick [1, 2] rfl (by decide)) ?_ ?_
    ·simp; omega
    ·simp; omega
   ·intro hc66
    try simp only [dn] at hc66
    obtain ⟨rfl, hperm⟩ := hF65 hc66
    refine vc_exit (vq_then_exit (vq_then_exit (vq_block_exit (vq_then (vk1 13 (vc_seq (vc_region ?_)))))))
    refine ym ?_
    refine vc_e (e_call [_] rfl rfl call64 rfl (sort_any w0.heap.size _ _ _ _ (by have := hperm.length_eq; omega) (st.res (i := 0) rfl)) ?_)
    rintro _ w ⟨rfl, ho, hc⟩
    replace st := st.swap (i := 0) (r' := .own (.slice o13 dn65.length c13) 9 1 dn65.length ((sortW dn65).map str)) rfl hc (fun k hk => hk) (fun k hk => .inr (own_ge (st.res (i := 0) rfl) k hk)) (fun k hk => .inl hk) ho
    dsimp only [setNth] at st
    refine vc_end (vq_then (vk1 13 (vc_seq (vc_region ?_))))
    refine ym ?_
    refine ya ?_
    refine vc_end (vq_then (vk1 2 (vc_ret ?_)))
    refine vq_ret1 st (.inl rfl) results21 (.tmp rfl) ?_
    refine ⟨_, rfl, ?_⟩
    have hsrt : sortW dn65 = namesL p := sort_perm hperm
    rw [hsrt] at st
    have hl : (namesL p).length = dn65.length := by rw [← hsrt]; simp [sortW]
    refine ⟨_, _, by rw [hl], ?_, st.chg⟩
    rw [hl]
    exact st.res (i := 0) rfl

end Go.Proofs.YtnmhlpnapgojjaaGreatDoor


/- When trees are the same: no program in sight. -/
namespace LexS
open Sx
def zipA {α β : Type} (f : α → β → Bool) : List α → List β → Bool
  | [], [] => true
  | x :: r, y :: s => f x y && zipA f r s
  | _, _ => false
theorem zipA_len {α β : Type} {f : α → β → Bool} : ∀ {a : List α} {b : List β}, a.length ≠ b.length → zipA f a b = false
  | [], [], h => absurd rfl h
  | x :: r, y :: s, h => by simp only [zipA, zipA_len (f := f) (a := r) (b := s) (by simpa using h), Bool.and_false]
  | [], _ :: _, _ => rfl
  | _ :: _, [], _ => rfl
theorem zipA_no {α β : Type} {f : α → β → Bool} : ∀ {a : List α} {b : List β} {j : Nat} {x : α} {y : β}, a[j]? = some x → b[j]? = some y → f x y = false → zipA f a b = false
  | [], _, j, x, y, h, _, _ => by simp at h
  | _ :: _, [], j, x, y, _, h, _ => by simp at h
  | u :: r, v :: s, 0, x, y, h1, h2, h => by simp at h1 h2; subst h1 h2; simp [zipA, h]
  | u :: r, v :: s, j + 1, x, y, h1, h2, h => by simp only [zipA, zipA_no (f := f) (a := r) (b := s) (by simpa using h1) (by simpa using h2) h, Bool.and_false]
theorem zipA_yes {α β : Type} {f : α → β → Bool} : ∀ {a : List α} {b : List β}, a.length = b.length → (∀ (j : Nat) x y, j < a.length → a[j]? = some x → b[j]? = some y → f x y = true) → zipA f a b = true
  | [], [], _, _ => rfl
  | u :: r, v :: s, hl, h => by
    simp only [zipA, Bool.and_eq_true]
    exact ⟨h 0 u v (by simp) rfl rfl, zipA_yes (by simpa using hl) fun j x y hj h1 h2 => h (j + 1) x y (by simp; omega) (by simpa using h1) (by simpa using h2)⟩
  | [], _ :: _, hl, _ => by simp at hl
  | _ :: _, [], hl, _ => by simp at hl
theorem zipA_refl {α : Type} {f : α → α → Bool} {a : List α} (h : ∀ x ∈ a, f x x = true) : zipA f a a = true :=
  zipA_yes rfl fun j x y hj h1 h2 => by rw [h1] at h2; cases h2; exact h x (List.mem_of_getElem? h1)
mutual
def sameE : Ex → Ex → Bool
  | .mk k op wd nm kids a, y => decide (k = y.k ∧ op = y.op ∧ wd = y.wd ∧ nm = y.nm) && sameEs kids y.kids
termination_by structural e => e
def sameEs : List Ex → List Ex → Bool
  | [], l => l.isEmpty
  | x :: r, l => match l with | [] => false | y :: s => sameE x y && sameEs r s
termination_by structural l => l
end
mutual
def plE : Ex → Ex → Bool
  | .mk k op wd nm kids a, y => decide (a = y.a) && plEs kids y.kids
termination_by structural e => e
def plEs : List Ex → List Ex → Bool
  | [], l => l.isEmpty
  | x :: r, l => match l with | [] => false | y :: s => plE x y && plEs r s
termination_by structural l => l
end
theorem sameEs_eq : ∀ (a b : List Ex), sameEs a b = zipA sameE a b
  | [], [] => rfl
  | [], _ :: _ => rfl
  | _ :: _, [] => by simp [sameEs, zipA]
  | x :: r, y :: s => by simp only [sameEs, zipA, sameEs_eq r s]
theorem plEs_eq : ∀ (a b : List Ex), plEs a b = zipA plE a b
  | [], [] => rfl
  | [], _ :: _ => rfl
  | _ :: _, [] => by simp [plEs, zipA]
  | x :: r, y :: s => by simp only [plEs, zipA, plEs_eq r s]
theorem sameE_eq (e y : Ex) : sameE e y = (decide (e.k = y.k ∧ e.op = y.op ∧ e.wd = y.wd ∧ e.nm = y.nm) && zipA sameE e.kids y.kids) := by
  cases e; rw [sameE, sameEs_eq]; rfl
theorem plE_eq (e y : Ex) : plE e y = (decide (e.a = y.a) && zipA plE e.kids y.kids) := by
  cases e; rw [plE, plEs_eq]; rfl
mutual
def sameS : Sm → Sm → Bool
  | .mk k nm other e body els a, y => decide (k = y.k ∧ nm = y.nm ∧ other = y.other) && zipA sameE e y.e && sameSs body y.body && sameSs els y.els
termination_by structural e => e
def sameSs : List Sm → List Sm → Bool
  | [], l => l.isEmpty
  | x :: r, l => match l with | [] => false | y :: s => sameS x y && sameSs r s
termination_by structural l => l
end
mutual
def plS : Sm → Sm → Bool
  | .mk k nm other e body els a, y => decide (a = y.a) && zipA plE e y.e && plSs body y.body && plSs els y.els
termination_by structural e => e
def plSs : List Sm → List Sm → Bool
  | [], l => l.isEmpty
  | x :: r, l => match l with | [] => false | y :: s => plS x y && plSs r s
termination_by structural l => l
end
theorem sameSs_eq : ∀ (a b : List Sm), sameSs a b = zipA sameS a b
  | [], [] => rfl
  | [], _ :: _ => rfl
  | _ :: _, [] => by simp [sameSs, zipA]
  | x :: r, y :: s => by simp only [sameSs, zipA, sameSs_eq r s]
theorem plSs_eq : ∀ (a b : List Sm), plSs a b = zipA plS a b
  | [], [] => rfl
  | [], _ :: _ => rfl
  | _ :: _, [] => by simp [plSs, zipA]
  | x :: r, y :: s => by simp only [plSs, zipA, plSs_eq r s]
theorem sameS_eq (s y : Sm) : sameS s y = (decide (s.k = y.k ∧ s.nm = y.nm ∧ s.other = y.other) && zipA sameE s.e y.e && zipA sameS s.body y.body && zipA sameS s.els y.els) := by
  cases s; rw [sameS, sameSs_eq, sameSs_eq]; rfl
theorem plS_eq (s y : Sm) : plS s y = (decide (s.a = y.a) && zipA plE s.e y.e && zipA plS s.body y.body && zipA plS s.els y.els) := by
  cases s; rw [plS, plSs_eq, plSs_eq]; rfl
def sameD (d y : Dc) : Bool := decide (d.nm = y.nm ∧ d.wd = y.wd)
def eqD (d y : Dc) : Bool := decide (d.nm = y.nm ∧ d.wd = y.wd ∧ d.a = y.a)
def sameT (t y : Th) : Bool := decide (t.nm = y.nm) && zipA sameD t.locals y.locals && zipA sameS t.body y.body
def exT (t y : Th) : Bool := decide (t.a = y.a) && zipA eqD t.locals y.locals && zipA plS t.body y.body
def sameP (p q : Pg) : Bool := zipA sameD p.shared q.shared && zipA sameD p.locks q.locks && zipA sameT p.threads q.threads
def exactP (p q : Pg) : Bool := sameP p q && zipA eqD p.shared q.shared && zipA eqD p.locks q.locks && zipA exT p.threads q.threads
theorem memE_lt {e x : Ex} (h : x ∈ e.kids) : SizeOf.sizeOf x < SizeOf.sizeOf e := by
  cases e with
  | mk k op wd nm kids a =>
    have := List.sizeOf_lt_of_mem h
    simp only [Ex.kids] at this
    simp only [Ex.mk.sizeOf_spec]; omega
theorem memS_lt {s x : Sm} (h : x ∈ s.body ∨ x ∈ s.els) : SizeOf.sizeOf x < SizeOf.sizeOf s := by
  cases s with
  | mk k nm other e body els a =>
    simp only [Sm.body, Sm.els] at h
    simp only [Sm.mk.sizeOf_spec]
    rcases h with h | h <;> (have := List.sizeOf_lt_of_mem h; omega)
theorem sameE_refl : ∀ (n : Nat) (e : Ex), SizeOf.sizeOf e = n → sameE e e = true := by
  intro n
  refine Nat.strongRecOn n fun n ih e hn => ?_
  subst hn
  rw [sameE_eq]
  simp only [and_self, decide_true, Bool.true_and]
  exact zipA_refl fun x hx => ih _ (memE_lt hx) x rfl
theorem plE_refl : ∀ (n : Nat) (e : Ex), SizeOf.sizeOf e = n → plE e e = true := by
  intro n
  refine Nat.strongRecOn n fun n ih e hn => ?_
  subst hn
  rw [plE_eq]
  simp only [decide_true, Bool.true_and]
  exact zipA_refl fun x hx => ih _ (memE_lt hx) x rfl
theorem sameS_refl : ∀ (n : Nat) (s : Sm), SizeOf.sizeOf s = n → sameS s s = true := by
  intro n
  refine Nat.strongRecOn n fun n ih s hn => ?_
  subst hn
  rw [sameS_eq]
  simp only [and_self, decide_true, Bool.true_and, Bool.and_eq_true]
  exact ⟨⟨zipA_refl fun x hx => sameE_refl _ x rfl, zipA_refl fun x hx => ih _ (memS_lt (.inl hx)) x rfl⟩, zipA_refl fun x hx => ih _ (memS_lt (.inr hx)) x rfl⟩
theorem plS_refl : ∀ (n : Nat) (s : Sm), SizeOf.sizeOf s = n → plS s s = true := by
  intro n
  refine Nat.strongRecOn n fun n ih s hn => ?_
  subst hn
  rw [plS_eq]
  simp only [decide_true, Bool.true_and, Bool.and_eq_true]
  exact ⟨⟨zipA_refl fun x hx => plE_refl _ x rfl, zipA_refl fun x hx => ih _ (memS_lt (.inl hx)) x rfl⟩, zipA_refl fun x hx => ih _ (memS_lt (.inr hx)) x rfl⟩
theorem sameP_refl (p : Pg) : sameP p p = true := by
  unfold sameP
  simp only [Bool.and_eq_true]
  refine ⟨⟨zipA_refl fun x _ => by simp [sameD], zipA_refl fun x _ => by simp [sameD]⟩, zipA_refl fun t _ => ?_⟩
  unfold sameT
  simp only [decide_true, Bool.true_and, Bool.and_eq_true]
  exact ⟨zipA_refl fun x _ => by simp [sameD], zipA_refl fun x _ => sameS_refl _ x rfl⟩
theorem exactP_refl (p : Pg) : exactP p p = true := by
  unfold exactP
  simp only [sameP_refl, Bool.true_and, Bool.and_eq_true]
  refine ⟨⟨zipA_refl fun x _ => by simp [eqD], zipA_refl fun x _ => by simp [eqD]⟩, zipA_refl fun t _ => ?_⟩
  unfold exT
  simp only [decide_true, Bool.true_and, Bool.and_eq_true]
  exact ⟨zipA_refl fun x _ => by simp [eqD], zipA_refl fun x _ => plS_refl _ x rfl⟩
end LexS


namespace Go.Proofs.YtnmhlpnapgojjaaGreatDoor
open Go.RowKit Sx LexS _root_.Go.Proofs.Tryz
theorem fields67 : (Tryz.prog.fieldsOf 63).toList.map (fun f => (f.name, f.type, f.offset)) = [("Name", 9, 0), ("Word", 2, 1), ("At", 3, 2)] := by kernel_rfl
theorem eqFields67 (p q : Dc) (w : World) : (Op.eqFields 9999 (dcL p).toArray (dcL q).toArray (Tryz.prog.fieldsOf 63).toList).run Tryz.prog w = .ok (eqD p q) w := by
 have h := fields67
 match hf : (Tryz.prog.fieldsOf 63).toList with
 | [a, b, c] =>
  rw [hf] at h
  simp only [List.map_cons, List.map_nil, List.cons.injEq, Prod.mk.injEq, and_true] at h
  obtain ⟨⟨a1, a2, a3⟩, ⟨b1, b2, b3⟩, c1, c2, c3⟩ := h
  have e1 : ∀ (x : Dc) w, (part 9 (dcL x).toArray 0).run Tryz.prog w = .ok (str x.nm) w := fun x w => run_part1 isAgg9 rfl
  have e2 : ∀ (x : Dc) w, (part 2 (dcL x).toArray 1).run Tryz.prog w = .ok (.int .i64 x.wd) w := fun x w => run_part1 isAgg2 rfl
  have e3 : ∀ (x : Dc) w, (part 3 (dcL x).toArray 2).run Tryz.prog w = .ok (.int .i64 x.a) w := fun x w => run_part1 isAgg3 rfl
  have r1 := run_equalIn_string (P := Tryz.prog) w 9998 9 ⟨p.nm.toArray⟩ ⟨q.nm.toArray⟩ underlying9
  have r2 := run_equalIn_int (P := Tryz.prog) w 9998 2 .i64 .i64 p.wd q.wd underlying2
  have r3 := run_equalIn_int (P := Tryz.prog) w 9998 3 .i64 .i64 p.a q.a underlying3
  simp only [str_toList] at r1
  simp only [Op.eqFields, a1, a2, a3, b1, b2, b3, c1, c2, c3, Sem.run_bind, Sem.run_ite, e1, e2, e3, Result.andThen_ok]
  simp only [ne_eq, String.reduceEq, not_false_eq_true, if_true, Sem.run_bind, Sem.run_ite, e1, e2, e3, r1, r2, r3, Result.andThen_ok, Sem.run_pure]
  unfold eqD
  by_cases h1 : p.nm = q.nm
  ·by_cases h2 : p.wd = q.wd
   ·by_cases h3 : p.a = q.a <;> simp [h1, h2, h3]
   ·simp [h1, h2]
  ·simp [h1]
 | [] => rw [hf] at h; simp at h
 | [_] => rw [hf] at h; simp at h
 | [_, _] => rw [hf] at h; simp at h
 | _ :: _ :: _ :: _ :: _ => rw [hf] at h; simp at h
section
variable {n : Fr} {kn : Kn} {w : World} {d ty : Nat} {pos : String} {aft : Array Edge} {g : Option (Nat × Bool)}
theorem y_neD {U : Nat} {x y : Operand} {p q : Dc} (hx : evO kn x = some (.agg (dcL p).toArray)) (hy : evO kn y = some (.agg (dcL q).toArray)) : Y Tryz.prog n kn w ⟨some d, .binOp .neq 63 x y U, ty, pos, aft, g⟩ (.bool (!eqD p q)) :=
 y_bo hx hy (by
   have h1 := run_eqGuard_agg (P := Tryz.prog) w .neq 63 x y (dcL p).toArray (dcL q).toArray (by kernel_rfl)
   have h2 := run_neq_struct (P := Tryz.prog) w 63 (dcL p).toArray (dcL q).toArray
   rw [run_equalIn_agg w 9999 63 _ _ (by kernel_rfl) (by kernel_rfl), eqFields67] at h2
   simp only [Sem.run_bind, h1, Result.andThen_ok]
   have h3 : (binOp .neq 63 (.agg (dcL p).toArray) (.agg (dcL q).toArray)).run Tryz.prog w = .ok (.bool (!eqD p q)) w := by rw [h2]; rfl
   exact h3)
end
end Go.Proofs.YtnmhlpnapgojjaaGreatDoor


namespace Go.Proofs.YtnmhlpnapgojjaaGreatDoor
open Go.RowKit Sx LexS _root_.Go.Proofs.Tryz
section
variable {S : Nat → Prop}

theorem rdeclsS_any (a b : List Dc) (oa ob : Option Addr) (ca cb : Nat) (w : World) (hA : DcRow w S oa a) (hB : DcRow w S ob b) (hn : a.length ≤ 1099511627776) :
    Ret Tryz.prog 44 [.slice oa a.length ca, .slice ob b.length cb] w fun v w' => v = .bool (zipA sameD a b) ∧ Chg [] w w' := by
  refine ret_of [_, _] func44 rfl ntmps44 rfl ?_
  have st := St.init w []
  obtain ⟨w0, rfl⟩ : ∃ w0, w0 = w := ⟨_, rfl⟩
  refine vc_seq (vc_region ?_)
  refine ya ?_
  refine vc_end (vq_then (vk2 0 1 (vc_seq (vc_seq (vc_region ?_)))))
  refine ym ?_
  refine vy (y_lensl rfl underlying23) ?_
  refine ym ?_
  refine vy (y_lensl rfl underlying23) ?_
  refine vy (y_nei rfl rfl) ?_
  refine vc_end (vq_then (vk3 0 1 10 ?_))
  refine vc_ifs rfl ?_ ?_
  · intro hc10
    try simp only [dn] at hc10
    refine vc_seq (vc_region ?_)
    refine ya ?_
    refine vc_end (vq_then (vk1 4 (vc_ret (vq_then_ret ?_))))
    refine vq_ret1 st (.inl rfl) results44 (.tmp rfl) ?_
    refine ⟨_, rfl, ?_⟩
    refine ⟨?_, st.chg⟩
    rw [zipA_len (by omega)]
  · intro hc10
    try simp only [dn] at hc10
    have hlen : a.length = b.length := by omega
    refine vc_code_skip (vq_then (vk2 0 1 (vc_seq (vc_seq (vc_region ?_)))))
    refine ym ?_
    refine vy (y_lensl rfl underlying23) ?_
    refine ym ?_
    refine vc_end (vq_then (vk4 0 1 12 13 (vc_block ?_)))
    refine vc_loop (w0 := w0) (M := []) (fun (j : Nat) => [(0, .slice oa a.length ca), (1, .slice ob b.length cb), (12, .int .i64 (a.length : Int)), (13, .int .i64 (j : Int))]) (fun _ => []) (fun j _ => j ≤ a.length ∧ ∀ (i : Nat) x y, i < j → a[i]? = some x → b[i]? = some y → sameD x y = true) (fun j => a.length - j) 0 ⟨rfl, rfl, rfl, rfl, trivial⟩ (st.dr) ⟨by omega, fun i x y h => by omega⟩ ?_
    clear st
    rintro j w ⟨hj, hall⟩ st
    refine vc_seq (vc_region ?_)
    refine vy (y_lss rfl rfl) ?_
    refine vc_end (vq_then (vk5 0 1 12 13 14 (vc_seq ?_)))
    refine vc_ifs rfl ?_ ?_
    · intro hc14
      try simp only [dn] at hc14
      obtain ⟨x, hx⟩ : ∃ x, a[j]? = some x := ⟨_, List.getElem?_eq_getElem (by omega)⟩
      obtain ⟨y, hy⟩ : ∃ y, b[j]? = some y := ⟨_, List.getElem?_eq_getElem (by omega)⟩
      obtain ⟨gb, go, rfl, hgS, hgl, hg⟩ := DcRow.at hA (by omega)
      obtain ⟨fb, fo, rfl, hfS, hfl, hf⟩ := DcRow.at hB (by omega)
      have hc := hg j x hx
      have hd := hf j y hy
      refine vc_code_skip (vq_then (vk4 0 1 12 13 (vc_seq (vc_block (vc_seq (vc_region ?_))))))
      refine ym ?_
      refine ya ?_
      refine vc_end (vq_then (vk5 0 1 5 12 13 (vc_seq ?_)))
      refine vc_draw Tryz.mixed [(0, true), (1, true), (2, true), (3, true), (4, true), (5, true), (6, true), (7, true), (8, true), (9, true), (10, true), (11, true), (12, true), (13, true), (14, true), (15, true), (16, true), (17, true), (18, true), (19, true), (20, true), (21, true), (22, true), (23, true)] (fun w => St _ _ _ w) st (by kernel_rfl) (by repeat (first | exact okQ_body | refine okQ_then ?_ | refine okQ_block ?_)) rfl (by kernel_rfl) ?_
      intro w cd; replace st := st.call0 cd; clear cd
      have hS := st
      iterate 2 refine pm hS ?_
      refine vp_take rfl rfl rfl hS (fun w st => y_ia (k := j) rfl rfl underlying23 sizeOf63 rfl (by omega)) ?_
      refine pf0 hS underlying63 sizeOf9 ?_
      refine vp_take rfl rfl rfl hS (fun w st => y_ldc rfl isAgg9 (st.chg.cell (hc 0 _ rfl) (by simp))) ?_
      iterate 2 refine pm hS ?_
      refine vp_take rfl rfl rfl hS (fun w st => y_ia (k := j) rfl rfl underlying23 sizeOf63 rfl (by omega)) ?_
      refine pf0 hS underlying63 sizeOf9 ?_
      refine vp_take rfl rfl rfl hS (fun w st => y_ldc rfl isAgg9 (st.chg.cell (hd 0 _ rfl) (by simp))) ?_
      refine vp_take rfl rfl rfl hS (fun w st => y_nes rfl rfl) ?_
      refine vp_part rfl rfl rfl hS rfl ?_ ?_
      · intro hg27
        try simp only [dn] at hg27
        iterate 11 refine vp_skip rfl rfl rfl hS ?_
        refine vp_take rfl rfl rfl hS (fun w st => y_pickt rfl rfl) ?_
        refine vp_end (vq_then (vk5 0 1 12 13 39 ?_))
        refine vc_ift rfl ?_
        refine vc_seq (vc_region ?_)
        refine ya ?_
        refine vc_end (vq_then (vk1 4 (vc_ret (vq_block_ret (vq_then_ret (vq_then_ret (vq_block_ret (vq_then_ret ?_))))))))
        refine vq_ret1 st (.inl rfl) results44 (.tmp rfl) ?_
        refine ⟨_, rfl, ?_⟩
        refine ⟨?_, st.chg⟩
        rw [zipA_no hx hy (by unfold sameD; simp_all)]
      · intro hg27
        try simp only [dn] at hg27
        iterate 2 refine pm hS ?_
        refine vp_take rfl rfl rfl hS (fun w st => y_ia (k := j) rfl rfl underlying23 sizeOf63 rfl (by omega)) ?_
        refine vp_take rfl rfl rfl hS (fun w st => y_fa (k := 1) rfl underlying63 rfl rfl sizeOf2 rfl) ?_
        refine vp_take rfl rfl rfl hS (fun w st => y_ldc rfl isAgg2 (st.chg.cell (hc 1 _ rfl) (by simp))) ?_
        iterate 2 refine pm hS ?_
        refine vp_take rfl rfl rfl hS (fun w st => y_ia (k := j) rfl rfl underlying23 sizeOf63 rfl (by omega)) ?_
        refine vp_take rfl rfl rfl hS (fun w st => y_fa (k := 1) rfl underlying63 rfl rfl sizeOf2 rfl) ?_
        refine vp_take rfl rfl rfl hS (fun w st => y_ldc rfl isAgg2 (st.chg.cell (hd 1 _ rfl) (by simp))) ?_
        refine vp_take rfl rfl rfl hS (fun w st => y_nei rfl rfl) ?_
        refine vp_take rfl rfl rfl hS (fun w st => y_pickf rfl rfl) ?_
        refine vp_end (vq_then (vk5 0 1 12 13 39 ?_))
        refine vc_ifs rfl ?_ ?_
        · intro hc39
          try simp only [dn] at hc39
          refine vc_seq (vc_region ?_)
          refine ya ?_
          refine vc_end (vq_then (vk1 4 (vc_ret (vq_block_ret (vq_then_ret (vq_then_ret (vq_block_ret (vq_then_ret ?_))))))))
          refine vq_ret1 st (.inl rfl) results44 (.tmp rfl) ?_
          refine ⟨_, rfl, ?_⟩
          refine ⟨?_, st.chg⟩
          rw [zipA_no hx hy (by unfold sameD; simp_all)]
        · intro hc39
          try simp only [dn] at hc39
          refine vc_code_skip (vq_block (vq_then (vk4 0 1 12 13 (vc_region ?_))))
          refine vy (y_add rfl rfl (by omega : _ = ((j + 1 : Nat) : Int)) (by omega) (by omega)) ?_
          refine ym ?_
          refine vc_end ?_
          refine vq_again (j + 1)  ⟨rfl, rfl, rfl, rfl, trivial⟩ (st.dr) ?_ ?_
          · exact ⟨by omega, fun i x' y' hi h1 h2 => by
              rcases (by omega : i < j ∨ i = j) with h | rfl
              · exact hall i x' y' h h1 h2
              · rw [hx] at h1; rw [hy] at h2; cases h1; cases h2; (unfold sameD; simp_all)⟩
          · omega
    · intro hc14
      try simp only [dn] at hc14
      refine vc_exit (vq_then_exit (vq_then_exit (vq_block_exit (vq_then (vc_keep [] trivial (vc_seq (vc_region ?_)))))))
      refine ya ?_
      refine vc_end (vq_then (vk1 4 (vc_ret ?_)))
      refine vq_ret1 st (.inl rfl) results44 (.tmp rfl) ?_
      refine ⟨_, rfl, ?_⟩
      refine ⟨?_, st.chg⟩
      rw [zipA_yes hlen fun i x y hi h1 h2 => hall i x y (by omega) h1 h2]

theorem rdeclared_any (a b : List Dc) (oa ob : Option Addr) (ca cb : Nat) (w : World) (hA : DcRow w S oa a) (hB : DcRow w S ob b) (hn : a.length ≤ 1099511627776) :
    Ret Tryz.prog 42 [.slice oa a.length ca, .slice ob b.length cb] w fun v w' => v = .bool (zipA eqD a b) ∧ Chg [] w w' := by
  refine ret_of [_, _] func42 rfl ntmps42 rfl ?_
  have st := St.init w []
  obtain ⟨w0, rfl⟩ : ∃ w0, w0 = w := ⟨_, rfl⟩
  refine vc_seq (vc_region ?_)
  refine ya ?_
  refine vc_end (vq_then (vk2 0 1 (vc_seq (vc_seq (vc_region ?_)))))
  refine ym ?_
  refine vy (y_lensl rfl underlying23) ?_
  refine ym ?_
  refine vy (y_lensl rfl underlying23) ?_
  refine vy (y_nei rfl rfl) ?_
  refine vc_end (vq_then (vk3 0 1 10 ?_))
  refine vc_ifs rfl ?_ ?_
  · intro hc10
    try simp only [dn] at hc10
    refine vc_seq (vc_region ?_)
    refine ya ?_
    refine vc_end (vq_then (vk1 4 (vc_ret (vq_then_ret ?_))))
    refine vq_ret1 st (.inl rfl) results42 (.tmp rfl) ?_
    refine ⟨_, rfl, ?_⟩
    refine ⟨?_, st.chg⟩
    rw [zipA_len (by omega)]
  · intro hc10
    try simp only [dn] at hc10
    have hlen : a.length = b.length := by omega
    refine vc_code_skip (vq_then (vk2 0 1 (vc_seq (vc_seq (vc_region ?_)))))
    refine ym ?_
    refine vy (y_lensl rfl underlying23) ?_
    refine ym ?_
    refine vc_end (vq_then (vk4 0 1 12 13 (vc_block ?_)))
    refine vc_loop (w0 := w0) (M := []) (fun (j : Nat) => [(0, .slice oa a.length ca), (1, .slice ob b.length cb), (12, .int .i64 (a.length : Int)), (13, .int .i64 (j : Int))]) (fun _ => []) (fun j _ => j ≤ a.length ∧ ∀ (i : Nat) x y, i < j → a[i]? = some x → b[i]? = some y → eqD x y = true) (fun j => a.length - j) 0 ⟨rfl, rfl, rfl, rfl, trivial⟩ (st.dr) ⟨by omega, fun i x y h => by omega⟩ ?_
    clear st
    rintro j w ⟨hj, hall⟩ st
    refine vc_seq (vc_region ?_)
    refine vy (y_lss rfl rfl) ?_
    refine vc_end (vq_then (vk5 0 1 12 13 14 (vc_seq ?_)))
    refine vc_ifs rfl ?_ ?_
    · intro hc14
      try simp only [dn] at hc14
      obtain ⟨x, hx⟩ : ∃ x, a[j]? = some x := ⟨_, List.getElem?_eq_getElem (by omega)⟩
      obtain ⟨y, hy⟩ : ∃ y, b[j]? = some y := ⟨_, List.getElem?_eq_getElem (by omega)⟩
      obtain ⟨gb, go, rfl, hgS, hgl, hg⟩ := DcRow.at hA (by omega)
      obtain ⟨fb, fo, rfl, hfS, hfl, hf⟩ := DcRow.at hB (by omega)
      have hc := hg j x hx
      have hd := hf j y hy
      refine vc_code_skip (vq_then (vk4 0 1 12 13 (vc_seq (vc_block (vc_seq (vc_region ?_))))))
      refine ym ?_
      refine ya ?_
      refine vc_end (vq_then (vk5 0 1 5 12 13 (vc_seq ?_)))
      refine vc_draw Tryz.mixed [(0, true), (1, true), (2, true), (3, true), (4, true), (5, true), (6, true), (7, true), (8, true)] (fun w => St _ _ _ w) st (by kernel_rfl) (by repeat (first | exact okQ_body | refine okQ_then ?_ | refine okQ_block ?_)) rfl (by kernel_rfl) ?_
      intro w cd; replace st := st.call0 cd; clear cd
      have hS := st
      iterate 2 refine pm hS ?_
      refine vp_take rfl rfl rfl hS (fun w st => y_ia (k := j) rfl rfl underlying23 sizeOf63 rfl (by omega)) ?_
      refine vp_take rfl rfl rfl hS (fun w st => y_ldca (dcL x) rfl isAgg63 sizeOf63 rfl (fun i v hi => st.chg.cell (hc i v hi) (by simp))) ?_
      iterate 2 refine pm hS ?_
      refine vp_take rfl rfl rfl hS (fun w st => y_ia (k := j) rfl rfl underlying23 sizeOf63 rfl (by omega)) ?_
      refine vp_take rfl rfl rfl hS (fun w st => y_ldca (dcL y) rfl isAgg63 sizeOf63 rfl (fun i v hi => st.chg.cell (hd i v hi) (by simp))) ?_
      refine vp_take rfl rfl rfl hS (fun w st => y_neD (p := x) (q := y) rfl rfl) ?_
      refine vp_end (vq_then (vk5 0 1 12 13 24 ?_))
      refine vc_ifs rfl ?_ ?_
      · intro hc24
        try simp only [dn] at hc24
        refine vc_seq (vc_region ?_)
        refine ya ?_
        refine vc_end (vq_then (vk1 4 (vc_ret (vq_block_ret (vq_then_ret (vq_then_ret (vq_block_ret (vq_then_ret ?_))))))))
        refine vq_ret1 st (.inl rfl) results42 (.tmp rfl) ?_
        refine ⟨_, rfl, ?_⟩
        refine ⟨?_, st.chg⟩
        rw [zipA_no hx hy (by simp_all)]
      · intro hc24
        try simp only [dn] at hc24
        refine vc_code_skip (vq_block (vq_then (vk4 0 1 12 13 (vc_region ?_))))
        refine vy (y_add rfl rfl (by omega : _ = ((j + 1 : Nat) : Int)) (by omega) (by omega)) ?_
        refine ym ?_
        refine vc_end ?_
        refine vq_again (j + 1)  ⟨rfl, rfl, rfl, rfl, trivial⟩ (st.dr) ?_ ?_
        · exact ⟨by omega, fun i x' y' hi h1 h2 => by
            rcases (by omega : i < j ∨ i = j) with h | rfl
            · exact hall i x' y' h h1 h2
            · rw [hx] at h1; rw [hy] at h2; cases h1; cases h2; (simp_all)⟩
        · omega
    · intro hc14
      try simp only [dn] at hc14
      refine vc_exit (vq_then_exit (vq_then_exit (vq_block_exit (vq_then (vc_keep [] trivial (vc_seq (vc_region ?_)))))))
      refine ya ?_
      refine vc_end (vq_then (vk1 4 (vc_ret ?_)))
      refine vq_ret1 st (.inl rfl) results42 (.tmp rfl) ?_
      refine ⟨_, rfl, ?_⟩
      refine ⟨?_, st.chg⟩
      rw [zipA_yes hlen fun i x y hi h1 h2 => hall i x y (by omega) h1 h2]

theorem rsameE_any (e y : Ex) (o o' : Option Addr) (c c' : Nat) (w : World) (hr : ExRow w S o e.kids) (hr' : ExRow w S o' y.kids)
    (hrec : ∀ w, ExRow w S o e.kids → ExRow w S o' y.kids → Ret Tryz.prog 51 [.slice o e.kids.length c, .slice o' y.kids.length c'] w fun v w' => v = .bool (zipA sameE e.kids y.kids) ∧ Chg [] w w') :
    Ret Tryz.prog 17 [.agg (exL e o c).toArray, .agg (exL y o' c').toArray] w fun v w' => v = .bool (sameE e y) ∧ Chg [] w w' := by
  refine ret_of [_, _] func17 rfl ntmps17 rfl ?_
  have st := St.init w []
  obtain ⟨w0, rfl⟩ : ∃ w0, w0 = w := ⟨_, rfl⟩
  refine vc_seq (vc_region ?_)
  refine vc_e (e_bx (l := [_, _, _, _, _, _]) st rfl rfl rfl rfl ?_)
  intro b2 w hb2 st
  refine vc_e (e_bx (l := [_, _, _, _, _, _]) st rfl rfl rfl rfl ?_)
  intro b3 w hb3 st
  refine ya ?_
  refine vc_end (vq_then (vk2 2 3 (vc_seq (vc_seq (vc_region ?_)))))
  refine vy (y_fa0 rfl underlying42 rfl rfl sizeOf38 rfl) ?_
  refine yl st 1 isAgg38 ?_
  refine vy (y_fa0 rfl underlying42 rfl rfl sizeOf38 rfl) ?_
  refine yl st 0 isAgg38 ?_
  refine vy (y_nei rfl rfl) ?_
  refine vmb ?_ ?_
  · intro hg10
    try simp only [dn] at hg10
    iterate 5 refine vsk ?_
    refine ypt ?_
    refine ym ?_
    iterate 5 refine vsk ?_
    refine ypt ?_
    refine ym ?_
    iterate 5 refine vsk ?_
    refine ypt ?_
    refine vc_end (vq_then (vk3 2 3 30 ?_))
    refine vc_ift rfl ?_
    refine vc_seq (vc_region ?_)
    refine ya ?_
    refine vc_end (vq_then (vk1 4 (vc_ret (vq_then_ret ?_))))
    refine vq_ret1 st (.inl rfl) results17 (.tmp rfl) ?_
    refine ⟨_, rfl, ?_⟩
    refine ⟨?_, st.chg⟩
    rw [sameE_eq]
    first
      | (rw [show decide (e.k = y.k ∧ e.op = y.op ∧ e.wd = y.wd ∧ e.nm = y.nm) = false from by
          simp only [decide_eq_false_iff_not]
          rintro ⟨q1, q2, q3, q4⟩
          simp_all]
         rfl)
  · intro hg10
    try simp only [dn] at hg10
    refine yfz 1 underlying42 sizeOf39 ?_
    refine yl st 1 isAgg39 ?_
    refine yfz 1 underlying42 sizeOf39 ?_
    refine yl st 0 isAgg39 ?_
    refine vy (y_nei rfl rfl) ?_
    refine ypf ?_
    refine vmb ?_ ?_
    · intro hg17
      try simp only [dn] at hg17
      iterate 5 refine vsk ?_
      refine ypt ?_
      refine ym ?_
      iterate 5 refine vsk ?_
      refine ypt ?_
      refine vc_end (vq_then (vk3 2 3 30 ?_))
      refine vc_ift rfl ?_
      refine vc_seq (vc_region ?_)
      refine ya ?_
      refine vc_end (vq_then (vk1 4 (vc_ret (vq_then_ret ?_))))
      refine vq_ret1 st (.inl rfl) results17 (.tmp rfl) ?_
      refine ⟨_, rfl, ?_⟩
      refine ⟨?_, st.chg⟩
      rw [sameE_eq]
      first
        | (rw [show decide (e.k = y.k ∧ e.op = y.op ∧ e.wd = y.wd ∧ e.nm = y.nm) = false from by
            simp only [decide_eq_false_iff_not]
            rintro ⟨q1, q2, q3, q4⟩
            simp_all]
           rfl)
    · intro hg17
      try simp only [dn] at hg17
      refine yfz 2 underlying42 sizeOf2 ?_
      refine yl st 1 isAgg2 ?_
      refine yfz 2 underlying42 sizeOf2 ?_
      refine yl st 0 isAgg2 ?_
      refine vy (y_nei rfl rfl) ?_
      refine ypf ?_
      refine vmb ?_ ?_
      · intro hg24
        try simp only [dn] at hg24
        iterate 5 refine vsk ?_
        refine ypt ?_
        refine vc_end (vq_then (vk3 2 3 30 ?_))
        refine vc_ift rfl ?_
        refine vc_seq (vc_region ?_)
        refine ya ?_
        refine vc_end (vq_then (vk1 4 (vc_ret (vq_then_ret ?_))))
        refine vq_ret1 st (.inl rfl) results17 (.tmp rfl) ?_
        refine ⟨_, rfl, ?_⟩
        refine ⟨?_, st.chg⟩
        rw [sameE_eq]
        first
          | (rw [show decide (e.k = y.k ∧ e.op = y.op ∧ e.wd = y.wd ∧ e.nm = y.nm) = false from by
              simp only [decide_eq_false_iff_not]
              rintro ⟨q1, q2, q3, q4⟩
              simp_all]
             rfl)
      · intro hg24
        try simp only [dn] at hg24
        refine yfz 3 underlying42 sizeOf9 ?_
        refine yl st 1 isAgg9 ?_
        refine yfz 3 underlying42 sizeOf9 ?_
        refine yl st 0 isAgg9 ?_
        refine vy (y_nes rfl rfl) ?_
        refine ypf ?_
        refine vc_end (vq_then (vk3 2 3 30 ?_))
        refine vc_ifs rfl ?_ ?_
        · intro hc30
          try simp only [dn] at hc30
          refine vc_seq (vc_region ?_)
          refine ya ?_
          refine vc_end (vq_then (vk1 4 (vc_ret (vq_then_ret ?_))))
          refine vq_ret1 st (.inl rfl) results17 (.tmp rfl) ?_
          refine ⟨_, rfl, ?_⟩
          refine ⟨?_, st.chg⟩
          rw [sameE_eq]
          first
            | (rw [show decide (e.k = y.k ∧ e.op = y.op ∧ e.wd = y.wd ∧ e.nm = y.nm) = false from by
                simp only [decide_eq_false_iff_not]
                rintro ⟨q1, q2, q3, q4⟩
                simp_all]
               rfl)
        · intro hc30
          try simp only [dn] at hc30
          refine vc_code_skip (vq_then (vk2 2 3 (vc_seq (vc_region ?_))))
          refine yfz 4 underlying42 sizeOf40 ?_
          refine yl st 1 isAgg40 ?_
          refine yfz 4 underlying42 sizeOf40 ?_
          refine yl st 0 isAgg40 ?_
          refine vc_e (e_call [_, _] rfl rfl call51 rfl (hrec _ (hr.kept (Same.of_nil st.chg)) (hr'.kept (Same.of_nil st.chg))) ?_)
          rintro _ w ⟨rfl, cw⟩
          replace st := st.call0 cw
          refine ya ?_
          refine vc_end (vq_then (vk1 4 (vc_ret ?_)))
          refine vq_ret1 st (.inl rfl) results17 (.tmp rfl) ?_
          refine ⟨_, rfl, ?_⟩
          refine ⟨?_, st.chg⟩
          rw [sameE_eq]
          (rw [show decide (e.k = y.k ∧ e.op = y.op ∧ e.wd = y.wd ∧ e.nm = y.nm) = true from by simp_all, Bool.true_and])

theorem rexprsS_any : ∀ (n : Nat) (a : List Ex), szo a = n → OkEs a → ∀ (b : List Ex) (oa ob : Option Addr) (ca cb : Nat) (w : World), ExRow w S oa a → ExRow w S ob b →
    Ret Tryz.prog 51 [.slice oa a.length ca, .slice ob b.length cb] w fun v w' => v = .bool (zipA sameE a b) ∧ Chg [] w w' := by
  intro n
  refine Nat.strongRecOn n fun n ih => ?_
  intro a hn hok b oa ob ca cb w hA hB
  subst hn
  have hn := hok.1
  refine ret_of [_, _] func51 rfl ntmps51 rfl ?_
  have st := St.init w []
  obtain ⟨w0, rfl⟩ : ∃ w0, w0 = w := ⟨_, rfl⟩
  refine vc_seq (vc_region ?_)
  refine ya ?_
  refine vc_end (vq_then (vk2 0 1 (vc_seq (vc_seq (vc_region ?_)))))
  refine ym ?_
  refine vy (y_lensl rfl underlying40) ?_
  refine ym ?_
  refine vy (y_lensl rfl underlying40) ?_
  refine vy (y_nei rfl rfl) ?_
  refine vc_end (vq_then (vk3 0 1 10 ?_))
  refine vc_ifs rfl ?_ ?_
  · intro hc10
    try simp only [dn] at hc10
    refine vc_seq (vc_region ?_)
    refine ya ?_
    refine vc_end (vq_then (vk1 4 (vc_ret (vq_then_ret ?_))))
    refine vq_ret1 st (.inl rfl) results51 (.tmp rfl) ?_
    refine ⟨_, rfl, ?_⟩
    refine ⟨?_, st.chg⟩
    rw [zipA_len (by omega)]
  · intro hc10
    try simp only [dn] at hc10
    have hlen : a.length = b.length := by omega
    refine vc_code_skip (vq_then (vk2 0 1 (vc_seq (vc_seq (vc_region ?_)))))
    refine ym ?_
    refine vy (y_lensl rfl underlying40) ?_
    refine ym ?_
    refine vc_end (vq_then (vk4 0 1 12 13 (vc_block ?_)))
    refine vc_loop (w0 := w0) (M := []) (fun (j : Nat) => [(0, .slice oa a.length ca), (1, .slice ob b.length cb), (12, .int .i64 (a.length : Int)), (13, .int .i64 (j : Int))]) (fun _ => []) (fun j _ => j ≤ a.length ∧ ∀ (i : Nat) x y, i < j → a[i]? = some x → b[i]? = some y → sameE x y = true) (fun j => a.length - j) 0 ⟨rfl, rfl, rfl, rfl, trivial⟩ (st.dr) ⟨by omega, fun i x y h => by omega⟩ ?_
    clear st
    rintro j w ⟨hj, hall⟩ st
    refine vc_seq (vc_region ?_)
    refine vy (y_lss rfl rfl) ?_
    refine vc_end (vq_then (vk5 0 1 12 13 14 (vc_seq ?_)))
    refine vc_ifs rfl ?_ ?_
    · intro hc14
      try simp only [dn] at hc14
      obtain ⟨x, hx⟩ : ∃ x, a[j]? = some x := ⟨_, List.getElem?_eq_getElem (by omega)⟩
      obtain ⟨y, hy⟩ : ∃ y, b[j]? = some y := ⟨_, List.getElem?_eq_getElem (by omega)⟩
      obtain ⟨gb, go, rfl, hgS, hgl, hg⟩ := ExRow.at hA (by omega)
      obtain ⟨fb, fo, rfl, hfS, hfl, hf⟩ := ExRow.at hB (by omega)
      obtain ⟨o0, c0, hV0, hr0, hc⟩ := hg j x hx
      obtain ⟨o1, c1, hV1, hr1, hd⟩ := hf j y hy
      have hkx := hok.2 j x hx
      have hz := mem_size hx
      have hz2 : szo x.kids < szo a := by have := szo_kids x; omega
      refine vc_code_skip (vq_then (vk4 0 1 12 13 (vc_seq (vc_block (vc_seq (vc_region ?_))))))
      refine ym ?_
      refine ya ?_
      refine vc_end (vq_then (vk5 0 1 5 12 13 (vc_seq ?_)))
      refine vc_draw Tryz.mixed [(0, true), (1, true), (2, true), (3, true), (4, true), (5, true), (6, true), (7, true), (8, false), (9, true)] (fun w => St _ _ _ w) st (by kernel_rfl) (by repeat (first | exact okQ_body | refine okQ_then ?_ | refine okQ_block ?_)) rfl (by kernel_rfl) ?_
      intro w cd; replace st := st.call0 cd; clear cd
      have hS := st
      iterate 2 refine pm hS ?_
      refine vp_take rfl rfl rfl hS (fun w st => y_ia (k := j) rfl rfl underlying40 sizeOf42 rfl (by omega)) ?_
      refine vp_take rfl rfl rfl hS (fun w st => y_ldca (exL x o0 c0) rfl isAgg42 sizeOf42 rfl (fun i v hi => st.chg.cell (hc i v hi) (by simp))) ?_
      iterate 2 refine pm hS ?_
      refine vp_take rfl rfl rfl hS (fun w st => y_ia (k := j) rfl rfl underlying40 sizeOf42 rfl (by omega)) ?_
      refine vp_take rfl rfl rfl hS (fun w st => y_ldca (exL y o1 c1) rfl isAgg42 sizeOf42 rfl (fun i v hi => st.chg.cell (hd i v hi) (by simp))) ?_
      refine vp_do rfl (e_call [_, _] rfl rfl call17 rfl (rsameE_any x y o0 o1 c0 c1 _ (hr0.kept (Same.of_nil st.chg)) (hr1.kept (Same.of_nil st.chg)) (fun w h1 h2 => ih _ hz2 x.kids rfl hkx.kids y.kids _ _ _ _ w h1 h2)) ?_)
      rintro _ w ⟨rfl, cw⟩
      replace st := st.call0 cw
      refine vp_next (by exact st) ?_; intro hS
      refine vp_take rfl rfl rfl hS (fun w st => y_not rfl) ?_
      refine vp_end (vq_then (vk5 0 1 12 13 25 ?_))
      refine vc_ifs rfl ?_ ?_
      · intro hc25
        try simp only [dn] at hc25
        refine vc_seq (vc_region ?_)
        refine ya ?_
        refine vc_end (vq_then (vk1 4 (vc_ret (vq_block_ret (vq_then_ret (vq_then_ret (vq_block_ret (vq_then_ret ?_))))))))
        refine vq_ret1 st (.inl rfl) results51 (.tmp rfl) ?_
        refine ⟨_, rfl, ?_⟩
        refine ⟨?_, st.chg⟩
        rw [zipA_no hx hy (by assumption)]
      · intro hc25
        try simp only [dn] at hc25
        refine vc_code_skip (vq_block (vq_then (vk4 0 1 12 13 (vc_region ?_))))
        refine vy (y_add rfl rfl (by omega : _ = ((j + 1 : Nat) : Int)) (by omega) (by omega)) ?_
        refine ym ?_
        refine vc_end ?_
        refine vq_again (j + 1)  ⟨rfl, rfl, rfl, rfl, trivial⟩ (st.dr) ?_ ?_
        · exact ⟨by omega, fun i x' y' hi h1 h2 => by
            rcases (by omega : i < j ∨ i = j) with h | rfl
            · exact hall i x' y' h h1 h2
            · rw [hx] at h1; rw [hy] at h2; cases h1; cases h2; assumption⟩
        · omega
    · intro hc14
      try simp only [dn] at hc14
      refine vc_exit (vq_then_exit (vq_then_exit (vq_block_exit (vq_then (vc_keep [] trivial (vc_seq (vc_region ?_)))))))
      refine ya ?_
      refine vc_end (vq_then (vk1 4 (vc_ret ?_)))
      refine vq_ret1 st (.inl rfl) results51 (.tmp rfl) ?_
      refine ⟨_, rfl, ?_⟩
      refine ⟨?_, st.chg⟩
      rw [zipA_yes hlen fun i x y hi h1 h2 => hall i x y (by omega) h1 h2]

theorem rplaces_any : ∀ (n : Nat) (a : List Ex), szo a = n → OkEs a → ∀ (b : List Ex) (oa ob : Option Addr) (ca cb : Nat) (w : World), ExRow w S oa a → ExRow w S ob b →
    Ret Tryz.prog 102 [.slice oa a.length ca, .slice ob b.length cb] w fun v w' => v = .bool (zipA plE a b) ∧ Chg [] w w' := by
  intro n
  refine Nat.strongRecOn n fun n ih => ?_
  intro a hn hok b oa ob ca cb w hA hB
  subst hn
  have hn := hok.1
  refine ret_of [_, _] func102 rfl ntmps102 rfl ?_
  have st := St.init w []
  obtain ⟨w0, rfl⟩ : ∃ w0, w0 = w := ⟨_, rfl⟩
  refine vc_seq (vc_region ?_)
  refine ya ?_
  refine vc_end (vq_then (vk2 0 1 (vc_seq (vc_seq (vc_region ?_)))))
  refine ym ?_
  refine vy (y_lensl rfl underlying40) ?_
  refine ym ?_
  refine vy (y_lensl rfl underlying40) ?_
  refine vy (y_nei rfl rfl) ?_
  refine vc_end (vq_then (vk3 0 1 10 ?_))
  refine vc_ifs rfl ?_ ?_
  · intro hc10
    try simp only [dn] at hc10
    refine vc_seq (vc_region ?_)
    refine ya ?_
    refine vc_end (vq_then (vk1 4 (vc_ret (vq_then_ret ?_))))
    refine vq_ret1 st (.inl rfl) results102 (.tmp rfl) ?_
    refine ⟨_, rfl, ?_⟩
    refine ⟨?_, st.chg⟩
    rw [zipA_len (by omega)]
  · intro hc10
    try simp only [dn] at hc10
    have hlen : a.length = b.length := by omega
    refine vc_code_skip (vq_then (vk2 0 1 (vc_seq (vc_seq (vc_region ?_)))))
    refine ym ?_
    refine vy (y_lensl rfl underlying40) ?_
    refine ym ?_
    refine vc_end (vq_then (vk4 0 1 12 13 (vc_block ?_)))
    refine vc_loop (w0 := w0) (M := []) (fun (j : Nat) => [(0, .slice oa a.length ca), (1, .slice ob b.length cb), (12, .int .i64 (a.length : Int)), (13, .int .i64 (j : Int))]) (fun _ => []) (fun j _ => j ≤ a.length ∧ ∀ (i : Nat) x y, i < j → a[i]? = some x → b[i]? = some y → plE x y = true) (fun j => a.length - j) 0 ⟨rfl, rfl, rfl, rfl, trivial⟩ (st.dr) ⟨by omega, fun i x y h => by omega⟩ ?_
    clear st
    rintro j w ⟨hj, hall⟩ st
    refine vc_seq (vc_region ?_)
    refine vy (y_lss rfl rfl) ?_
    refine vc_end (vq_then (vk5 0 1 12 13 14 (vc_seq ?_)))
    refine vc_ifs rfl ?_ ?_
    · intro hc14
      try simp only [dn] at hc14
      obtain ⟨x, hx⟩ : ∃ x, a[j]? = some x := ⟨_, List.getElem?_eq_getElem (by omega)⟩
      obtain ⟨y, hy⟩ : ∃ y, b[j]? = some y := ⟨_, List.getElem?_eq_getElem (by omega)⟩
      obtain ⟨gb, go, rfl, hgS, hgl, hg⟩ := ExRow.at hA (by omega)
      obtain ⟨fb, fo, rfl, hfS, hfl, hf⟩ := ExRow.at hB (by omega)
      obtain ⟨o0, c0, hV0, hr0, hc⟩ := hg j x hx
      obtain ⟨o1, c1, hV1, hr1, hd⟩ := hf j y hy
      have hkx := hok.2 j x hx
      have hz := mem_size hx
      have hz2 : szo x.kids < szo a := by have := szo_kids x; omega
      refine vc_code_skip (vq_then (vk4 0 1 12 13 (vc_seq (vc_block (vc_seq (vc_region ?_))))))
      refine ym ?_
      refine ya ?_
      refine vc_end (vq_then (vk5 0 1 5 12 13 (vc_seq ?_)))
      refine vc_draw Tryz.mixed [(0, true), (1, true), (2, true), (3, true), (4, true), (5, true), (6, true), (7, true), (8, true), (9, true), (10, true), (11, true), (12, true), (13, true), (14, true), (15, true), (16, true), (17, true), (18, true), (19, true), (20, true), (21, true), (22, false), (23, true), (24, true)] (fun w => St _ _ _ w) st (by kernel_rfl) (by repeat (first | exact okQ_body | refine okQ_then ?_ | refine okQ_block ?_)) rfl (by kernel_rfl) ?_
      intro w cd; replace st := st.call0 cd; clear cd
      have hS := st
      iterate 2 refine pm hS ?_
      refine vp_take rfl rfl rfl hS (fun w st => y_ia (k := j) rfl rfl underlying40 sizeOf42 rfl (by omega)) ?_
      refine vp_take rfl rfl rfl hS (fun w st => y_fa (k := 5) rfl underlying42 rfl rfl sizeOf3 rfl) ?_
      refine vp_take rfl rfl rfl hS (fun w st => y_ldc rfl isAgg3 (st.chg.cell (hc 5 _ rfl) (by simp))) ?_
      iterate 2 refine pm hS ?_
      refine vp_take rfl rfl rfl hS (fun w st => y_ia (k := j) rfl rfl underlying40 sizeOf42 rfl (by omega)) ?_
      refine vp_take rfl rfl rfl hS (fun w st => y_fa (k := 5) rfl underlying42 rfl rfl sizeOf3 rfl) ?_
      refine vp_take rfl rfl rfl hS (fun w st => y_ldc rfl isAgg3 (st.chg.cell (hd 5 _ rfl) (by simp))) ?_
      refine vp_take rfl rfl rfl hS (fun w st => y_nei rfl rfl) ?_
      refine vp_part rfl rfl rfl hS rfl ?_ ?_
      · intro hg27
        try simp only [dn] at hg27
        iterate 10 refine vp_skip rfl rfl rfl hS ?_
        refine vp_do rfl (e_skip rfl rfl (vp_next hS (fun hS => ?_)))
        refine vp_skip rfl rfl rfl hS ?_
        refine vp_take rfl rfl rfl hS (fun w st => y_pickt rfl rfl) ?_
        refine vp_end (vq_then (vk5 0 1 12 13 40 ?_))
        refine vc_ift rfl ?_
        refine vc_seq (vc_region ?_)
        refine ya ?_
        refine vc_end (vq_then (vk1 4 (vc_ret (vq_block_ret (vq_then_ret (vq_then_ret (vq_block_ret (vq_then_ret ?_))))))))
        refine vq_ret1 st (.inl rfl) results102 (.tmp rfl) ?_
        refine ⟨_, rfl, ?_⟩
        refine ⟨?_, st.chg⟩
        rw [zipA_no hx hy (by rw [plE_eq]; simp_all)]
      · intro hg27
        try simp only [dn] at hg27
        iterate 2 refine pm hS ?_
        refine vp_take rfl rfl rfl hS (fun w st => y_ia (k := j) rfl rfl underlying40 sizeOf42 rfl (by omega)) ?_
        refine vp_take rfl rfl rfl hS (fun w st => y_fa (k := 4) rfl underlying42 rfl rfl sizeOf40 rfl) ?_
        refine vp_take rfl rfl rfl hS (fun w st => y_ldc rfl isAgg40 (st.chg.cell (hc 4 _ rfl) (by simp))) ?_
        iterate 2 refine pm hS ?_
        refine vp_take rfl rfl rfl hS (fun w st => y_ia (k := j) rfl rfl underlying40 sizeOf42 rfl (by omega)) ?_
        refine vp_take rfl rfl rfl hS (fun w st => y_fa (k := 4) rfl underlying42 rfl rfl sizeOf40 rfl) ?_
        refine vp_take rfl rfl rfl hS (fun w st => y_ldc rfl isAgg40 (st.chg.cell (hd 4 _ rfl) (by simp))) ?_
        refine vp_do rfl (e_call [_, _] rfl rfl call102 rfl (ih _ hz2 x.kids rfl hkx.kids y.kids _ _ _ _ _ (hr0.kept (Same.of_nil st.chg)) (hr1.kept (Same.of_nil st.chg))) ?_)
        rintro _ w ⟨rfl, cw⟩
        replace st := st.call0 cw
        refine vp_next (by exact st) ?_; intro hS
        refine vp_take rfl rfl rfl hS (fun w st => y_not rfl) ?_
        refine vp_take rfl rfl rfl hS (fun w st => y_pickf rfl rfl) ?_
        refine vp_end (vq_then (vk5 0 1 12 13 40 ?_))
        refine vc_ifs rfl ?_ ?_
        · intro hc40
          try simp only [dn] at hc40
          refine vc_seq (vc_region ?_)
          refine ya ?_
          refine vc_end (vq_then (vk1 4 (vc_ret (vq_block_ret (vq_then_ret (vq_then_ret (vq_block_ret (vq_then_ret ?_))))))))
          refine vq_ret1 st (.inl rfl) results102 (.tmp rfl) ?_
          refine ⟨_, rfl, ?_⟩
          refine ⟨?_, st.chg⟩
          rw [zipA_no hx hy (by rw [plE_eq]; simp_all)]
        · intro hc40
          try simp only [dn] at hc40
          refine vc_code_skip (vq_block (vq_then (vk4 0 1 12 13 (vc_region ?_))))
          refine vy (y_add rfl rfl (by omega : _ = ((j + 1 : Nat) : Int)) (by omega) (by omega)) ?_
          refine ym ?_
          refine vc_end ?_
          refine vq_again (j + 1)  ⟨rfl, rfl, rfl, rfl, trivial⟩ (st.dr) ?_ ?_
          · exact ⟨by omega, fun i x' y' hi h1 h2 => by
              rcases (by omega : i < j ∨ i = j) with h | rfl
              · exact hall i x' y' h h1 h2
              · rw [hx] at h1; rw [hy] at h2; cases h1; cases h2; (rw [plE_eq]; simp_all)⟩
          · omega
    · intro hc14
      try simp only [dn] at hc14
      refine vc_exit (vq_then_exit (vq_then_exit (vq_block_exit (vq_then (vc_keep [] trivial (vc_seq (vc_region ?_)))))))
      refine ya ?_
      refine vc_end (vq_then (vk1 4 (vc_ret ?_)))
      refine vq_ret1 st (.inl rfl) results102 (.tmp rfl) ?_
      refine ⟨_, rfl, ?_⟩
      refine ⟨?_, st.chg⟩
      rw [zipA_yes hlen fun i x y hi h1 h2 => hall i x y (by omega) h1 h2]

set_option maxHeartbeats 1000000 in
theorem rstmtsS_any : ∀ (n : Nat) (a : List Sm), szo a = n → OkSs a → ∀ (b : List Sm) (oa ob : Option Addr) (ca cb : Nat) (w : World), SmRow w S oa a → SmRow w S ob b →
    Ret Tryz.prog 45 [.slice oa a.length ca, .slice ob b.length cb] w fun v w' => v = .bool (zipA sameS a b) ∧ Chg [] w w' := by
  intro n
  refine Nat.strongRecOn n fun n ih => ?_
  intro a hn hok b oa ob ca cb w hA hB
  subst hn
  have hn := hok.1
  refine ret_of [_, _] func45 rfl ntmps45 rfl ?_
  have st := St.init w []
  obtain ⟨w0, rfl⟩ : ∃ w0, w0 = w := ⟨_, rfl⟩
  refine vc_seq (vc_region ?_)
  refine ya ?_
  refine vc_end (vq_then (vk2 0 1 (vc_seq (vc_seq (vc_region ?_)))))
  refine ym ?_
  refine vy (y_lensl rfl underlying65) ?_
  refine ym ?_
  refine vy (y_lensl rfl underlying65) ?_
  refine vy (y_nei rfl rfl) ?_
  refine vc_end (vq_then (vk3 0 1 12 ?_))
  refine vc_ifs rfl ?_ ?_
  · intro hc12
    try simp only [dn] at hc12
    refine vc_seq (vc_region ?_)
    refine ya ?_
    refine vc_end (vq_then (vk1 4 (vc_ret (vq_then_ret ?_))))
    refine vq_ret1 st (.inl rfl) results45 (.tmp rfl) ?_
    refine ⟨_, rfl, ?_⟩
    refine ⟨?_, st.chg⟩
    rw [zipA_len (by omega)]
  · intro hc12
    try simp only [dn] at hc12
    have hlen : a.length = b.length := by omega
    refine vc_code_skip (vq_then (vk2 0 1 (vc_seq (vc_seq (vc_region ?_)))))
    refine ym ?_
    refine vy (y_lensl rfl underlying65) ?_
    refine ym ?_
    refine vc_end (vq_then (vk4 0 1 14 15 (vc_block ?_)))
    refine vc_loop (w0 := w0) (M := []) (fun (j : Nat) => [(0, .slice oa a.length ca), (1, .slice ob b.length cb), (14, .int .i64 (a.length : Int)), (15, .int .i64 (j : Int))]) (fun _ => []) (fun j _ => j ≤ a.length ∧ ∀ (i : Nat) x y, i < j → a[i]? = some x → b[i]? = some y → sameS x y = true) (fun j => a.length - j) 0 ⟨rfl, rfl, rfl, rfl, trivial⟩ (st.dr) ⟨by omega, fun i x y h => by omega⟩ ?_
    clear st
    rintro j w ⟨hj, hall⟩ st
    refine vc_seq (vc_region ?_)
    refine vy (y_lss rfl rfl) ?_
    refine vc_end (vq_then (vk5 0 1 14 15 16 (vc_seq ?_)))
    refine vc_ifs rfl ?_ ?_
    · intro hc16
      try simp only [dn] at hc16
      obtain ⟨x, hx⟩ : ∃ x, a[j]? = some x := ⟨_, List.getElem?_eq_getElem (by omega)⟩
      obtain ⟨y, hy⟩ : ∃ y, b[j]? = some y := ⟨_, List.getElem?_eq_getElem (by omega)⟩
      obtain ⟨gb, go, rfl, hgS, hgl, hg⟩ := SmRow.at hA (by omega)
      obtain ⟨fb, fo, rfl, hfS, hfl, hf⟩ := SmRow.at hB (by omega)
      obtain ⟨oe, obb, ol, ce, cbb, cl, hsV, hse, hsb, hsl, hc⟩ := hg j x hx
      obtain ⟨oe', obb', ol', ce', cbb', cl', hsV', hse', hsb', hsl', hd⟩ := hf j y hy
      have hkx := hok.2 j x hx
      have hz := mem_size hx
      have hB2 : szo x.body < szo a := by have : szo x.body < szo x := by cases x; exact sm_size.1
                                          omega
      have hL2 : szo x.els < szo a := by have : szo x.els < szo x := by cases x; exact sm_size.2
                                         omega
      refine vc_code_skip (vq_then (vk4 0 1 14 15 (vc_seq (vc_block (vc_seq (vc_region ?_))))))
      refine ym ?_
      refine ya ?_
      refine vc_end (vq_then (vk5 0 1 5 14 15 ?_))
      refine vc_cut (w0 := w0) (M := []) (fun (z : Nat × Nat) => [(0, .slice (some ⟨gb, go, none⟩) a.length ca), (1, .slice (some ⟨fb, fo, none⟩) b.length cb), (6, .pointer (some ⟨z.1, 0, none⟩)), (7, .pointer (some ⟨z.2, 0, none⟩)), (14, .int .i64 (a.length : Int)), (15, .int .i64 (j : Int))]) (fun z => [.blk z.1 (.cells [.int .u8 x.k, str x.nm, str x.other, .slice oe x.e.length ce, .slice obb x.body.length cbb, .slice ol x.els.length cl, .int .i64 x.a].toArray 67 (0, 0)), .blk z.2 (.cells [.int .u8 y.k, str y.nm, str y.other, .slice oe' y.e.length ce', .slice obb' y.body.length cbb', .slice ol' y.els.length cl', .int .i64 y.a].toArray 67 (0, 0))]) (fun _ _ => True) ?_ ?_
      ·
        refine vd_draw Tryz.mixed (.take 0 (.take 1 (.take 2 (.take 3 (.take 4 (.take 5 (.take 6 (.take 7 (.two 8 9 (.one 9 (.one 10 (.one 11 .done))) (.one 8 (.one 10 (.one 11 .done)))))))))))) (fun w => St _ _ _ w) st (by kernel_rfl) (by repeat (first | exact okQ_body | refine okQ_then ?_ | refine okQ_block ?_)) rfl (by kernel_rfl) ?_
        intro w cd; replace st := st.call0 cd; clear cd
        have hS := st
        iterate 2 refine dm hS ?_
        refine vd_take rfl rfl rfl hS (fun w st => y_ia (k := j) rfl rfl underlying65 sizeOf67 rfl (by omega)) ?_
        refine vd_take rfl rfl rfl hS (fun w st => y_ldca (smL x oe obb ol ce cbb cl) rfl isAgg67 sizeOf67 rfl (fun i v hi => st.chg.cell (hc i v hi) (by simp))) ?_
        iterate 2 refine dm hS ?_
        refine vd_take rfl rfl rfl hS (fun w st => y_ia (k := j) rfl rfl underlying65 sizeOf67 rfl (by omega)) ?_
        refine vd_take rfl rfl rfl hS (fun w st => y_ldca (smL y oe' obb' ol' ce' cbb' cl') rfl isAgg67 sizeOf67 rfl (fun i v hi => st.chg.cell (hd i v hi) (by simp))) ?_
        refine vd_two rfl rfl ?_ ?_
        ·
          refine (e_al (l := [_, _, _, _, _, _, _]) st rfl rfl zeroValue67 rfl ?_)
          intro b6 w hb6 st
          refine vd_next st.dr ?_; intro hS
          refine vd_do rfl (e_al (l := [_, _, _, _, _, _, _]) st rfl rfl zeroValue67 rfl ?_)
          intro b7 w hb7 st
          refine vd_next st.dr ?_; intro hS
          refine vd_do rfl (e_sts (vs := [_, _, _, _, _, _, _]) st 1 rfl rfl rfl rfl rfl sizeOf67 rfl rfl (by (right; assumption)) ?_)
          intro w st; dsimp only [setNth, wr] at st
          refine vd_next st.dr ?_; intro hS
          refine vd_do rfl (e_sts (vs := [_, _, _, _, _, _, _]) st 0 rfl rfl rfl rfl rfl sizeOf67 rfl rfl (by (right; assumption)) ?_)
          intro w st; dsimp only [setNth, wr] at st
          refine vd_next st.dr ?_; intro hS
          refine vd_end ?_
          refine vq_meet (b6, b7) ⟨rfl, rfl, rfl, rfl, rfl, rfl, trivial⟩ (st.pick [1, 0] rfl (by decide)) ?_
          · trivial
        ·
          refine (e_al (l := [_, _, _, _, _, _, _]) st rfl rfl zeroValue67 rfl ?_)
          intro b7 w hb7 st
          refine vd_next st.dr ?_; intro hS
          refine vd_do rfl (e_al (l := [_, _, _, _, _, _, _]) st rfl rfl zeroValue67 rfl ?_)
          intro b6 w hb6 st
          refine vd_next st.dr ?_; intro hS
          refine vd_do rfl (e_sts (vs := [_, _, _, _, _, _, _]) st 0 rfl rfl rfl rfl rfl sizeOf67 rfl rfl (by (right; assumption)) ?_)
          intro w st; dsimp only [setNth, wr] at st
          refine vd_next st.dr ?_; intro hS
          refine vd_do rfl (e_sts (vs := [_, _, _, _, _, _, _]) st 1 rfl rfl rfl rfl rfl sizeOf67 rfl rfl (by (right; assumption)) ?_)
          intro w st; dsimp only [setNth, wr] at st
          refine vd_next st.dr ?_; intro hS
          refine vd_end ?_
          refine vq_meet (b6, b7) ⟨rfl, rfl, rfl, rfl, rfl, rfl, trivial⟩ st ?_
          · trivial
      ·
        clear st
        rintro ⟨b6, b7⟩ w - st
        dsimp only at *
        refine vc_seq (vc_region ?_)
        refine vy (y_fa0 rfl underlying67 rfl rfl sizeOf64 rfl) ?_
        refine yl st 0 isAgg64 ?_
        refine vy (y_fa0 rfl underlying67 rfl rfl sizeOf64 rfl) ?_
        refine yl st 1 isAgg64 ?_
        refine vy (y_nei rfl rfl) ?_
        refine vmb ?_ ?_
        · intro hg31
          try simp only [dn] at hg31
          iterate 5 refine vsk ?_
          refine ypt ?_
          refine ym ?_
          iterate 5 refine vsk ?_
          refine ypt ?_
          refine ym ?_
          iterate 6 refine vsk ?_
          refine ypt ?_
          refine ym ?_
          iterate 6 refine vsk ?_
          refine ypt ?_
          refine ym ?_
          iterate 6 refine vsk ?_
          refine ypt ?_
          refine vc_end (vq_then (vk5 0 1 14 15 68 ?_))
          refine vc_ift rfl ?_
          refine vc_seq (vc_region ?_)
          refine ya ?_
          refine vc_end (vq_then (vk1 4 (vc_ret (vq_block_ret (vq_then_ret (vq_then_ret (vq_block_ret (vq_then_ret ?_))))))))
          refine vq_ret1 st (.inl rfl) results45 (.tmp rfl) ?_
          refine ⟨_, rfl, ?_⟩
          refine ⟨?_, st.chg⟩
          rw [zipA_no hx hy (by rw [sameS_eq]; clear st; simp_all)]
        · intro hg31
          try simp only [dn] at hg31
          refine yfz 1 underlying67 sizeOf9 ?_
          refine yl st 0 isAgg9 ?_
          refine yfz 1 underlying67 sizeOf9 ?_
          refine yl st 1 isAgg9 ?_
          refine vy (y_nes rfl rfl) ?_
          refine ypf ?_
          refine vmb ?_ ?_
          · intro hg38
            try simp only [dn] at hg38
            iterate 5 refine vsk ?_
            refine ypt ?_
            refine ym ?_
            iterate 6 refine vsk ?_
            refine ypt ?_
            refine ym ?_
            iterate 6 refine vsk ?_
            refine ypt ?_
            refine ym ?_
            iterate 6 refine vsk ?_
            refine ypt ?_
            refine vc_end (vq_then (vk5 0 1 14 15 68 ?_))
            refine vc_ift rfl ?_
            refine vc_seq (vc_region ?_)
            refine ya ?_
            refine vc_end (vq_then (vk1 4 (vc_ret (vq_block_ret (vq_then_ret (vq_then_ret (vq_block_ret (vq_then_ret ?_))))))))
            refine vq_ret1 st (.inl rfl) results45 (.tmp rfl) ?_
            refine ⟨_, rfl, ?_⟩
            refine ⟨?_, st.chg⟩
            rw [zipA_no hx hy (by rw [sameS_eq]; clear st; simp_all)]
          · intro hg38
            try simp only [dn] at hg38
            refine yfz 2 underlying67 sizeOf9 ?_
            refine yl st 0 isAgg9 ?_
            refine yfz 2 underlying67 sizeOf9 ?_
            refine yl st 1 isAgg9 ?_
            refine vy (y_nes rfl rfl) ?_
            refine ypf ?_
            refine vmb ?_ ?_
            · intro hg45
              try simp only [dn] at hg45
              iterate 6 refine vsk ?_
              refine ypt ?_
              refine ym ?_
              iterate 6 refine vsk ?_
              refine ypt ?_
              refine ym ?_
              iterate 6 refine vsk ?_
              refine ypt ?_
              refine vc_end (vq_then (vk5 0 1 14 15 68 ?_))
              refine vc_ift rfl ?_
              refine vc_seq (vc_region ?_)
              refine ya ?_
              refine vc_end (vq_then (vk1 4 (vc_ret (vq_block_ret (vq_then_ret (vq_then_ret (vq_block_ret (vq_then_ret ?_))))))))
              refine vq_ret1 st (.inl rfl) results45 (.tmp rfl) ?_
              refine ⟨_, rfl, ?_⟩
              refine ⟨?_, st.chg⟩
              rw [zipA_no hx hy (by rw [sameS_eq]; clear st; simp_all)]
            · intro hg45
              try simp only [dn] at hg45
              refine yfz 3 underlying67 sizeOf40 ?_
              refine yl st 0 isAgg40 ?_
              refine yfz 3 underlying67 sizeOf40 ?_
              refine yl st 1 isAgg40 ?_
              refine vc_e (e_call [_, _] rfl rfl call51 rfl (rexprsS_any _ x.e rfl hkx.e y.e _ _ _ _ _ (hse.kept (Same.of_nil st.chg)) (hse'.kept (Same.of_nil st.chg))) ?_)
              rintro _ w ⟨rfl, cw⟩
              replace st := st.call0 cw
              refine vy (y_not rfl) ?_
              refine ypf ?_
              refine vmb ?_ ?_
              · intro hg53
                try simp only [dn] at hg53
                iterate 6 refine vsk ?_
                refine ypt ?_
                refine ym ?_
                iterate 6 refine vsk ?_
                refine ypt ?_
                refine vc_end (vq_then (vk5 0 1 14 15 68 ?_))
                refine vc_ift rfl ?_
                refine vc_seq (vc_region ?_)
                refine ya ?_
                refine vc_end (vq_then (vk1 4 (vc_ret (vq_block_ret (vq_then_ret (vq_then_ret (vq_block_ret (vq_then_ret ?_))))))))
                refine vq_ret1 st (.inl rfl) results45 (.tmp rfl) ?_
                refine ⟨_, rfl, ?_⟩
                refine ⟨?_, st.chg⟩
                rw [zipA_no hx hy (by rw [sameS_eq]; clear st; simp_all)]
              · intro hg53
                try simp only [dn] at hg53
                refine yfz 4 underlying67 sizeOf65 ?_
                refine yl st 0 isAgg65 ?_
                refine yfz 4 underlying67 sizeOf65 ?_
                refine yl st 1 isAgg65 ?_
                refine vc_e (e_call [_, _] rfl rfl call45 rfl (ih _ hB2 x.body rfl hkx.body y.body _ _ _ _ _ (hsb.kept (Same.of_nil st.chg)) (hsb'.kept (Same.of_nil st.chg))) ?_)
                rintro _ w ⟨rfl, cw⟩
                replace st := st.call0 cw
                refine vy (y_not rfl) ?_
                refine ypf ?_
                refine vmb ?_ ?_
                · intro hg61
                  try simp only [dn] at hg61
                  iterate 6 refine vsk ?_
                  refine ypt ?_
                  refine vc_end (vq_then (vk5 0 1 14 15 68 ?_))
                  refine vc_ift rfl ?_
                  refine vc_seq (vc_region ?_)
                  refine ya ?_
                  refine vc_end (vq_then (vk1 4 (vc_ret (vq_block_ret (vq_then_ret (vq_then_ret (vq_block_ret (vq_then_ret ?_))))))))
                  refine vq_ret1 st (.inl rfl) results45 (.tmp rfl) ?_
                  refine ⟨_, rfl, ?_⟩
                  refine ⟨?_, st.chg⟩
                  rw [zipA_no hx hy (by rw [sameS_eq]; clear st; simp_all)]
                · intro hg61
                  try simp only [dn] at hg61
                  refine yfz 5 underlying67 sizeOf65 ?_
                  refine yl st 0 isAgg65 ?_
                  refine yfz 5 underlying67 sizeOf65 ?_
                  refine yl st 1 isAgg65 ?_
                  refine vc_e (e_call [_, _] rfl rfl call45 rfl (ih _ hL2 x.els rfl hkx.els y.els _ _ _ _ _ (hsl.kept (Same.of_nil st.chg)) (hsl'.kept (Same.of_nil st.chg))) ?_)
                  rintro _ w ⟨rfl, cw⟩
                  replace st := st.call0 cw
                  refine vy (y_not rfl) ?_
                  refine ypf ?_
                  refine vc_end (vq_then (vk5 0 1 14 15 68 ?_))
                  refine vc_ifs rfl ?_ ?_
                  · intro hc68
                    try simp only [dn] at hc68
                    refine vc_seq (vc_region ?_)
                    refine ya ?_
                    refine vc_end (vq_then (vk1 4 (vc_ret (vq_block_ret (vq_then_ret (vq_then_ret (vq_block_ret (vq_then_ret ?_))))))))
                    refine vq_ret1 st (.inl rfl) results45 (.tmp rfl) ?_
                    refine ⟨_, rfl, ?_⟩
                    refine ⟨?_, st.chg⟩
                    rw [zipA_no hx hy (by rw [sameS_eq]; clear st; simp_all)]
                  · intro hc68
                    try simp only [dn] at hc68
                    refine vc_code_skip (vq_block (vq_then (vk4 0 1 14 15 (vc_region ?_))))
                    refine vy (y_add rfl rfl (by omega : _ = ((j + 1 : Nat) : Int)) (by omega) (by omega)) ?_
                    refine ym ?_
                    refine vc_end ?_
                    refine vq_again (j + 1)  ⟨rfl, rfl, rfl, rfl, trivial⟩ (st.dr) ?_ ?_
                    · exact ⟨by omega, fun i x' y' hi h1 h2 => by
                        rcases (by omega : i < j ∨ i = j) with h | rfl
                        · exact hall i x' y' h h1 h2
                        · rw [hx] at h1; rw [hy] at h2; cases h1; cases h2; (rw [sameS_eq]; clear st; simp_all)⟩
                    · omega
    · intro hc16
      try simp only [dn] at hc16
      refine vc_exit (vq_then_exit (vq_then_exit (vq_block_exit (vq_then (vc_keep [] trivial (vc_seq (vc_region ?_)))))))
      refine ya ?_
      refine vc_end (vq_then (vk1 4 (vc_ret ?_)))
      refine vq_ret1 st (.inl rfl) results45 (.tmp rfl) ?_
      refine ⟨_, rfl, ?_⟩
      refine ⟨?_, st.chg⟩
      rw [zipA_yes hlen fun i x y hi h1 h2 => hall i x y (by omega) h1 h2]

set_option maxHeartbeats 1000000 in
theorem rplacesS_any : ∀ (n : Nat) (a : List Sm), szo a = n → OkSs a → ∀ (b : List Sm) (oa ob : Option Addr) (ca cb : Nat) (w : World), SmRow w S oa a → SmRow w S ob b →
    Ret Tryz.prog 43 [.slice oa a.length ca, .slice ob b.length cb] w fun v w' => v = .bool (zipA plS a b) ∧ Chg [] w w' := by
  intro n
  refine Nat.strongRecOn n fun n ih => ?_
  intro a hn hok b oa ob ca cb w hA hB
  subst hn
  have hn := hok.1
  refine ret_of [_, _] func43 rfl ntmps43 rfl ?_
  have st := St.init w []
  obtain ⟨w0, rfl⟩ : ∃ w0, w0 = w := ⟨_, rfl⟩
  refine vc_seq (vc_region ?_)
  refine ya ?_
  refine vc_end (vq_then (vk2 0 1 (vc_seq (vc_seq (vc_region ?_)))))
  refine ym ?_
  refine vy (y_lensl rfl underlying65) ?_
  refine ym ?_
  refine vy (y_lensl rfl underlying65) ?_
  refine vy (y_nei rfl rfl) ?_
  refine vc_end (vq_then (vk3 0 1 10 ?_))
  refine vc_ifs rfl ?_ ?_
  · intro hc10
    try simp only [dn] at hc10
    refine vc_seq (vc_region ?_)
    refine ya ?_
    refine vc_end (vq_then (vk1 4 (vc_ret (vq_then_ret ?_))))
    refine vq_ret1 st (.inl rfl) results43 (.tmp rfl) ?_
    refine ⟨_, rfl, ?_⟩
    refine ⟨?_, st.chg⟩
    rw [zipA_len (by omega)]
  · intro hc10
    try simp only [dn] at hc10
    have hlen : a.length = b.length := by omega
    refine vc_code_skip (vq_then (vk2 0 1 (vc_seq (vc_seq (vc_region ?_)))))
    refine ym ?_
    refine vy (y_lensl rfl underlying65) ?_
    refine ym ?_
    refine vc_end (vq_then (vk4 0 1 12 13 (vc_block ?_)))
    refine vc_loop (w0 := w0) (M := []) (fun (j : Nat) => [(0, .slice oa a.length ca), (1, .slice ob b.length cb), (12, .int .i64 (a.length : Int)), (13, .int .i64 (j : Int))]) (fun _ => []) (fun j _ => j ≤ a.length ∧ ∀ (i : Nat) x y, i < j → a[i]? = some x → b[i]? = some y → plS x y = true) (fun j => a.length - j) 0 ⟨rfl, rfl, rfl, rfl, trivial⟩ (st.dr) ⟨by omega, fun i x y h => by omega⟩ ?_
    clear st
    rintro j w ⟨hj, hall⟩ st
    refine vc_seq (vc_region ?_)
    refine vy (y_lss rfl rfl) ?_
    refine vc_end (vq_then (vk5 0 1 12 13 14 (vc_seq ?_)))
    refine vc_ifs rfl ?_ ?_
    · intro hc14
      try simp only [dn] at hc14
      obtain ⟨x, hx⟩ : ∃ x, a[j]? = some x := ⟨_, List.getElem?_eq_getElem (by omega)⟩
      obtain ⟨y, hy⟩ : ∃ y, b[j]? = some y := ⟨_, List.getElem?_eq_getElem (by omega)⟩
      obtain ⟨gb, go, rfl, hgS, hgl, hg⟩ := SmRow.at hA (by omega)
      obtain ⟨fb, fo, rfl, hfS, hfl, hf⟩ := SmRow.at hB (by omega)
      obtain ⟨oe, obb, ol, ce, cbb, cl, hsV, hse, hsb, hsl, hc⟩ := hg j x hx
      obtain ⟨oe', obb', ol', ce', cbb', cl', hsV', hse', hsb', hsl', hd⟩ := hf j y hy
      have hkx := hok.2 j x hx
      have hz := mem_size hx
      have hB2 : szo x.body < szo a := by have : szo x.body < szo x := by cases x; exact sm_size.1
                                          omega
      have hL2 : szo x.els < szo a := by have : szo x.els < szo x := by cases x; exact sm_size.2
                                         omega
      refine vc_code_skip (vq_then (vk4 0 1 12 13 (vc_seq (vc_block (vc_seq (vc_region ?_))))))
      refine ym ?_
      refine ya ?_
      refine vc_end (vq_then (vk5 0 1 5 12 13 (vc_seq ?_)))
      refine vc_draw Tryz.mixed [(0, true), (1, true), (2, true), (3, true), (4, true), (5, true), (6, true), (7, true), (8, true), (9, true), (10, true), (11, true), (12, true), (13, true), (14, true), (15, true), (16, true), (17, true), (18, true), (19, true), (20, true), (21, true), (22, false), (23, true), (24, true), (25, true), (26, true), (27, true), (28, true), (29, true), (30, true), (31, true), (32, true), (33, true), (34, true), (35, true), (36, false), (37, true), (38, true), (39, true), (40, true), (41, true), (42, true), (43, true), (44, true), (45, true), (46, true), (47, true), (48, true), (49, true), (50, false), (51, true), (52, true)] (fun w => St _ _ _ w) st (by kernel_rfl) (by repeat (first | exact okQ_body | refine okQ_then ?_ | refine okQ_block ?_)) rfl (by kernel_rfl) ?_
      intro w cd; replace st := st.call0 cd; clear cd
      have hS := st
      iterate 2 refine pm hS ?_
      refine vp_take rfl rfl rfl hS (fun w st => y_ia (k := j) rfl rfl underlying65 sizeOf67 rfl (by omega)) ?_
      refine vp_take rfl rfl rfl hS (fun w st => y_fa (k := 6) rfl underlying67 rfl rfl sizeOf3 rfl) ?_
      refine vp_take rfl rfl rfl hS (fun w st => y_ldc rfl isAgg3 (st.chg.cell (hc 6 _ rfl) (by simp))) ?_
      iterate 2 refine pm hS ?_
      refine vp_take rfl rfl rfl hS (fun w st => y_ia (k := j) rfl rfl underlying65 sizeOf67 rfl (by omega)) ?_
      refine vp_take rfl rfl rfl hS (fun w st => y_fa (k := 6) rfl underlying67 rfl rfl sizeOf3 rfl) ?_
      refine vp_take rfl rfl rfl hS (fun w st => y_ldc rfl isAgg3 (st.chg.cell (hd 6 _ rfl) (by simp))) ?_
      refine vp_take rfl rfl rfl hS (fun w st => y_nei rfl rfl) ?_
      refine vp_part rfl rfl rfl hS rfl ?_ ?_
      · intro hg27
        try simp only [dn] at hg27
        iterate 10 refine vp_skip rfl rfl rfl hS ?_
        refine vp_do rfl (e_skip rfl rfl (vp_next hS (fun hS => ?_)))
        refine vp_skip rfl rfl rfl hS ?_
        refine vp_take rfl rfl rfl hS (fun w st => y_pickt rfl rfl) ?_
        refine pm hS ?_
        iterate 10 refine vp_skip rfl rfl rfl hS ?_
        refine vp_do rfl (e_skip rfl rfl (vp_next hS (fun hS => ?_)))
        refine vp_skip rfl rfl rfl hS ?_
        refine vp_take rfl rfl rfl hS (fun w st => y_pickt rfl rfl) ?_
        refine pm hS ?_
        iterate 10 refine vp_skip rfl rfl rfl hS ?_
        refine vp_do rfl (e_skip rfl rfl (vp_next hS (fun hS => ?_)))
        refine vp_skip rfl rfl rfl hS ?_
        refine vp_take rfl rfl rfl hS (fun w st => y_pickt rfl rfl) ?_
        refine vp_end (vq_then (vk5 0 1 12 13 68 ?_))
        refine vc_ift rfl ?_
        refine vc_seq (vc_region ?_)
        refine ya ?_
        refine vc_end (vq_then (vk1 4 (vc_ret (vq_block_ret (vq_then_ret (vq_then_ret (vq_block_ret (vq_then_ret ?_))))))))
        refine vq_ret1 st (.inl rfl) results43 (.tmp rfl) ?_
        refine ⟨_, rfl, ?_⟩
        refine ⟨?_, st.chg⟩
        rw [zipA_no hx hy (by rw [plS_eq]; clear st; simp_all)]
      · intro hg27
        try simp only [dn] at hg27
        iterate 2 refine pm hS ?_
        refine vp_take rfl rfl rfl hS (fun w st => y_ia (k := j) rfl rfl underlying65 sizeOf67 rfl (by omega)) ?_
        refine vp_take rfl rfl rfl hS (fun w st => y_fa (k := 3) rfl underlying67 rfl rfl sizeOf40 rfl) ?_
        refine vp_take rfl rfl rfl hS (fun w st => y_ldc rfl isAgg40 (st.chg.cell (hc 3 _ rfl) (by simp))) ?_
        iterate 2 refine pm hS ?_
        refine vp_take rfl rfl rfl hS (fun w st => y_ia (k := j) rfl rfl underlying65 sizeOf67 rfl (by omega)) ?_
        refine vp_take rfl rfl rfl hS (fun w st => y_fa (k := 3) rfl underlying67 rfl rfl sizeOf40 rfl) ?_
        refine vp_take rfl rfl rfl hS (fun w st => y_ldc rfl isAgg40 (st.chg.cell (hd 3 _ rfl) (by simp))) ?_
        refine vp_do rfl (e_call [_, _] rfl rfl call102 rfl (rplaces_any _ x.e rfl hkx.e y.e _ _ _ _ _ (hse.kept (Same.of_nil st.chg)) (hse'.kept (Same.of_nil st.chg))) ?_)
        rintro _ w ⟨rfl, cw⟩
        replace st := st.call0 cw
        refine vp_next (by exact st) ?_; intro hS
        refine vp_take rfl rfl rfl hS (fun w st => y_not rfl) ?_
        refine vp_take rfl rfl rfl hS (fun w st => y_pickf rfl rfl) ?_
        refine vp_part rfl rfl rfl hS rfl ?_ ?_
        · intro hg41
          try simp only [dn] at hg41
          iterate 10 refine vp_skip rfl rfl rfl hS ?_
          refine vp_do rfl (e_skip rfl rfl (vp_next hS (fun hS => ?_)))
          refine vp_skip rfl rfl rfl hS ?_
          refine vp_take rfl rfl rfl hS (fun w st => y_pickt rfl rfl) ?_
          refine pm hS ?_
          iterate 10 refine vp_skip rfl rfl rfl hS ?_
          refine vp_do rfl (e_skip rfl rfl (vp_next hS (fun hS => ?_)))
          refine vp_skip rfl rfl rfl hS ?_
          refine vp_take rfl rfl rfl hS (fun w st => y_pickt rfl rfl) ?_
          refine vp_end (vq_then (vk5 0 1 12 13 68 ?_))
          refine vc_ift rfl ?_
          refine vc_seq (vc_region ?_)
          refine ya ?_
          refine vc_end (vq_then (vk1 4 (vc_ret (vq_block_ret (vq_then_ret (vq_then_ret (vq_block_ret (vq_then_ret ?_))))))))
          refine vq_ret1 st (.inl rfl) results43 (.tmp rfl) ?_
          refine ⟨_, rfl, ?_⟩
          refine ⟨?_, st.chg⟩
          rw [zipA_no hx hy (by rw [plS_eq]; clear st; simp_all)]
        · intro hg41
          try simp only [dn] at hg41
          iterate 2 refine pm hS ?_
          refine vp_take rfl rfl rfl hS (fun w st => y_ia (k := j) rfl rfl underlying65 sizeOf67 rfl (by omega)) ?_
          refine vp_take rfl rfl rfl hS (fun w st => y_fa (k := 4) rfl underlying67 rfl rfl sizeOf65 rfl) ?_
          refine vp_take rfl rfl rfl hS (fun w st => y_ldc rfl isAgg65 (st.chg.cell (hc 4 _ rfl) (by simp))) ?_
          iterate 2 refine pm hS ?_
          refine vp_take rfl rfl rfl hS (fun w st => y_ia (k := j) rfl rfl underlying65 sizeOf67 rfl (by omega)) ?_
          refine vp_take rfl rfl rfl hS (fun w st => y_fa (k := 4) rfl underlying67 rfl rfl sizeOf65 rfl) ?_
          refine vp_take rfl rfl rfl hS (fun w st => y_ldc rfl isAgg65 (st.chg.cell (hd 4 _ rfl) (by simp))) ?_
          refine vp_do rfl (e_call [_, _] rfl rfl call43 rfl (ih _ hB2 x.body rfl hkx.body y.body _ _ _ _ _ (hsb.kept (Same.of_nil st.chg)) (hsb'.kept (Same.of_nil st.chg))) ?_)
          rintro _ w ⟨rfl, cw⟩
          replace st := st.call0 cw
          refine vp_next (by exact st) ?_; intro hS
          refine vp_take rfl rfl rfl hS (fun w st => y_not rfl) ?_
          refine vp_take rfl rfl rfl hS (fun w st => y_pickf rfl rfl) ?_
          refine vp_part rfl rfl rfl hS rfl ?_ ?_
          · intro hg55
            try simp only [dn] at hg55
            iterate 10 refine vp_skip rfl rfl rfl hS ?_
            refine vp_do rfl (e_skip rfl rfl (vp_next hS (fun hS => ?_)))
            refine vp_skip rfl rfl rfl hS ?_
            refine vp_take rfl rfl rfl hS (fun w st => y_pickt rfl rfl) ?_
            refine vp_end (vq_then (vk5 0 1 12 13 68 ?_))
            refine vc_ift rfl ?_
            refine vc_seq (vc_region ?_)
            refine ya ?_
            refine vc_end (vq_then (vk1 4 (vc_ret (vq_block_ret (vq_then_ret (vq_then_ret (vq_block_ret (vq_then_ret ?_))))))))
            refine vq_ret1 st (.inl rfl) results43 (.tmp rfl) ?_
            refine ⟨_, rfl, ?_⟩
            refine ⟨?_, st.chg⟩
            rw [zipA_no hx hy (by rw [plS_eq]; clear st; simp_all)]
          · intro hg55
            try simp only [dn] at hg55
            iterate 2 refine pm hS ?_
            refine vp_take rfl rfl rfl hS (fun w st => y_ia (k := j) rfl rfl underlying65 sizeOf67 rfl (by omega)) ?_
            refine vp_take rfl rfl rfl hS (fun w st => y_fa (k := 5) rfl underlying67 rfl rfl sizeOf65 rfl) ?_
            refine vp_take rfl rfl rfl hS (fun w st => y_ldc rfl isAgg65 (st.chg.cell (hc 5 _ rfl) (by simp))) ?_
            iterate 2 refine pm hS ?_
            refine vp_take rfl rfl rfl hS (fun w st => y_ia (k := j) rfl rfl underlying65 sizeOf67 rfl (by omega)) ?_
            refine vp_take rfl rfl rfl hS (fun w st => y_fa (k := 5) rfl underlying67 rfl rfl sizeOf65 rfl) ?_
            refine vp_take rfl rfl rfl hS (fun w st => y_ldc rfl isAgg65 (st.chg.cell (hd 5 _ rfl) (by simp))) ?_
            refine vp_do rfl (e_call [_, _] rfl rfl call43 rfl (ih _ hL2 x.els rfl hkx.els y.els _ _ _ _ _ (hsl.kept (Same.of_nil st.chg)) (hsl'.kept (Same.of_nil st.chg))) ?_)
            rintro _ w ⟨rfl, cw⟩
            replace st := st.call0 cw
            refine vp_next (by exact st) ?_; intro hS
            refine vp_take rfl rfl rfl hS (fun w st => y_not rfl) ?_
            refine vp_take rfl rfl rfl hS (fun w st => y_pickf rfl rfl) ?_
            refine vp_end (vq_then (vk5 0 1 12 13 68 ?_))
            refine vc_ifs rfl ?_ ?_
            · intro hc68
              try simp only [dn] at hc68
              refine vc_seq (vc_region ?_)
              refine ya ?_
              refine vc_end (vq_then (vk1 4 (vc_ret (vq_block_ret (vq_then_ret (vq_then_ret (vq_block_ret (vq_then_ret ?_))))))))
              refine vq_ret1 st (.inl rfl) results43 (.tmp rfl) ?_
              refine ⟨_, rfl, ?_⟩
              refine ⟨?_, st.chg⟩
              rw [zipA_no hx hy (by rw [plS_eq]; clear st; simp_all)]
            · intro hc68
              try simp only [dn] at hc68
              refine vc_code_skip (vq_block (vq_then (vk4 0 1 12 13 (vc_region ?_))))
              refine vy (y_add rfl rfl (by omega : _ = ((j + 1 : Nat) : Int)) (by omega) (by omega)) ?_
              refine ym ?_
              refine vc_end ?_
              refine vq_again (j + 1)  ⟨rfl, rfl, rfl, rfl, trivial⟩ (st.dr) ?_ ?_
              · exact ⟨by omega, fun i x' y' hi h1 h2 => by
                  rcases (by omega : i < j ∨ i = j) with h | rfl
                  · exact hall i x' y' h h1 h2
                  · rw [hx] at h1; rw [hy] at h2; cases h1; cases h2; (rw [plS_eq]; clear st; simp_all)⟩
              · omega
    · intro hc14
      try simp only [dn] at hc14
      refine vc_exit (vq_then_exit (vq_then_exit (vq_block_exit (vq_then (vc_keep [] trivial (vc_seq (vc_region ?_)))))))
      refine ya ?_
      refine vc_end (vq_then (vk1 4 (vc_ret ?_)))
      refine vq_ret1 st (.inl rfl) results43 (.tmp rfl) ?_
      refine ⟨_, rfl, ?_⟩
      refine ⟨?_, st.chg⟩
      rw [zipA_yes hlen fun i x y hi h1 h2 => hall i x y (by omega) h1 h2]

end
end Go.Proofs.YtnmhlpnapgojjaaGreatDoor

