/- A part of the proof: contracts of functions and plain laws; each theorem says its own conditions. -/
import Derived.Sort.KeysCollected
import Derived.Test.YtnmhlpnapgojjaaGreatDoorTopReadK2
import Derived.Test.YtnmhlpnapgojjaaGreatDoorTopReadK7
import Derived.Test.YtnmhlpnapgojjaaGreatDoorTopReadK1
import Derived.Test.YtnmhlpnapgojjaaGreatDoorTopReadK3
import Derived.Test.YtnmhlpnapgojjaaGreatDoorTopReadK6
import Derived.Test.YtnmhlpnapgojjaaGreatDoorTopReadK0
set_option linter.unusedVariables false
set_option linter.unusedSimpArgs false
namespace Go.Proofs.YtnmhlpnapgojjaaGreatDoor
open Go.RowKit Sx LexS _root_.Go.Proofs.Tryz
/-- the keys behind the declarations -/
abbrev kD (p : Pg) : List Wd := addAll ((p.shared ++ p.locks).map (·.nm)) []
abbrev kT (p : Pg) (j : Nat) : List Wd := addAll ((p.threads.take j).flatMap nmsT) (kD p)
abbrev kAll (p : Pg) : List Wd := addAll (nmsP p) []
theorem kT_all (p : Pg) : kT p p.threads.length = kAll p := by rw [kT, List.take_length, kD, kAll, nmsP, addAll_app]
theorem sort_perm {p : Pg} {l : List Wd} (h : l.Perm (kAll p)) : sortW l = namesL p := mergeSort_of_perm h
theorem addAll_len (l : List Wd) : ∀ ks : List Wd, (addAll l ks).length ≤ l.length + ks.length := by
 induction l with
 | nil => intro ks; simp [addAll_nil]
 | cons s r ih =>
  intro ks
  have h1 : (addK s ks).length ≤ ks.length + 1 := by unfold addK insK; split <;> (try split) <;> simp
  have := ih (addK s ks)
  rw [addAll_cons]; simp; omega
set_option maxHeartbeats 4000000 in
theorem names_any {S : Nat → Prop} (p : Pg) (hok : OkP p) (os ol ot : Option Addr) (cs cl ct : Nat) (w : World) (hS : ∀ b, S b → b < w.heap.size) (hSh : DcRow w S os p.shared) (hL : DcRow w S ol p.locks) (hT : ThRow w S ot p.threads) (hlen : (nmsP p).length ≤ 4398046511104) :
    Ret Tryz.prog 21 [.agg (pgL p os ol ot cs cl ct).toArray] w fun v w' => ∃ oa cap, v = .slice oa (namesL p).length cap ∧ w'.ownsRow w.heap.size 9 1 (.slice oa (namesL p).length cap) (namesL p).length ((namesL p).map str) ∧ Chg [] w w' := by
 refine ret_of [_] func21 rfl ntmps21 rfl ?_
 have st := St.init w []
 obtain ⟨w0, rfl⟩ : ∃ w0, w0 = w := ⟨_, rfl⟩
 have hn1 := hok.1.1
 have hn2 := hok.2.1.1
 have hn3 := hok.2.2.1
 have hnn : (p.shared ++ p.locks).length ≤ 2199023255552 := by rw [List.length_append]; omega
 refine sr ?_
 refine vc_e (e_bx (l := [_, _, _]) st rfl rfl rfl rfl ?_)
 intro b1 w hb1 st
 refine ya ?_
 refine et (vk1 1 (sr ?_))
 refine vc_e (e_mkm st rfl rfl ?_)
 intro b15 w hb15 st
 refine vc_e (e_al (l := [_]) st rfl rfl zeroValue100 rfl ?_)
 intro b3 w hb3 st
 refine vc_e (est st 0 sizeOf100 ?_)
 intro w st; dsimp only [setNth, wr] at st
 refine et (vk2 1 3 (sr ?_))
 refine vy (y_mf [] [_] rfl rfl) ?_
 refine vc_e (e_al (l := [_]) st rfl rfl zeroValue101 rfl ?_)
 intro b4 w hb4 st
 refine vc_e (est st 0 sizeOf101 ?_)
 intro w st; dsimp only [setNth, wr] at st
 refine et (vk3 1 3 4 (sr ?_))
 refine vc_e (e_al (l := [_]) st rfl rfl zeroValue102 rfl ?_)
 intro b5 w hb5 st
 refine et (vk4 1 3 4 5 (sr ?_))
 refine vy (y_mf [] [_, _] rfl rfl) ?_
 refine vc_e (est st 0 sizeOf102 ?_)
 intro w st; dsimp only [setNth, wr] at st
 refine et (vk4 1 3 4 5 (sr ?_))
 refine vc_e (e_al (l := [_]) st rfl rfl zeroValue103 rfl ?_)
 intro b6 w hb6 st
 refine et (vk5 1 3 4 5 6 (sr ?_))
 refine vy (y_mf [] [_, _, _] rfl rfl) ?_
 refine vc_e (est st 0 sizeOf103 ?_)
 intro w st; dsimp only [setNth, wr] at st
 refine et (vk4 1 3 4 6 (vc_seq (sr ?_)))
 obtain ⟨e, he⟩ : ∃ e : NEnv, e = ⟨b15, b3, b4, b5, b6⟩ := ⟨_, rfl⟩
 obtain ⟨rfl, rfl, rfl, rfl, rfl⟩ : b15 = e.b ∧ b3 = e.bm ∧ b4 = e.bf ∧ b5 = e.be ∧ b6 = e.bs := by subst he; exact ⟨rfl, rfl, rfl, rfl, rfl⟩
 have hge : w0.heap.size ≤ e.b := by assumption
 replace st := st.joinN 4 (q := .tree e.E e.ins) (by
   intro k hk
   simp only [Res.at?, NEnv.E, List.mem_cons, List.not_mem_nil, or_false] at hk
   rcases hk with rfl | rfl | rfl | rfl
   · exact ⟨_, .tail _ (.tail _ (.tail _ (.head _))), .head _⟩
   · exact ⟨_, .tail _ (.tail _ (.head _)), .head _⟩
   · exact ⟨_, .tail _ (.head _), .head _⟩
   · exact ⟨_, .head _, .head _⟩) (by
   have h : e.ins w := ⟨st.res (i := 3) rfl, st.res (i := 2) rfl, st.res (i := 1) rfl, st.res (i := 0) rfl⟩
   exact ⟨h, h.lt, NEnv.ins.loc⟩)
 dsimp only [List.drop] at st
 have hd : e.b ∉ e.E := fun hk => st.ne (i := 1) (j := 0) (by decide) rfl rfl _ (.head _) hk
 refine vy (y_fa0 rfl underlying26 rfl rfl sizeOf23 rfl) ?_
 refine yl st 2 isAgg23 ?_
 refine yfz 1 underlying26 sizeOf23 ?_
 refine yl st 2 isAgg23 ?_
 refine vc_e (e_bsn (l := [.slice os p.shared.length cs, .slice ol p.locks.length cl]) (E := 23) st [(0, _), (1, _)] rfl rfl rfl (fun w => by simp [Instr.buildSlice, run_underlying underlying153, sizeOf23, zeroValue23, Instr.fill, newRow, newObj, Sem.run, go_sem]) ?_)
 intro b23 w hb23 st
 refine vc_e (e_call [_] rfl rfl call63 rfl (concatD_any (S := S) [(os, p.shared, cs), (ol, p.locks, cl)] (by simp [DsF]; omega) (by simp) b23 _ _ (fun j x hx => by rcases j with _ | _ | j <;> simp at hx <;> subst hx <;> exact cell_nth (st.res (i := 0) rfl) rfl) (fun j x hx => by rcases j with _ | _ | j <;> simp at hx <;> subst hx; exact RowC.kept hSh st.sm; exact RowC.kept hL st.sm)) ?_)
 rintro _ w ⟨oq, cq, Sq, rfl, hq, hnq, hc⟩
 have hDs : DsF [(os, p.shared, cs), (ol, p.locks, cl)] = p.shared ++ p.locks := by simp [DsF]
 rw [hDs] at hq ⊢
 replace st := st.pushR (r := .tree Sq (fun w => DcRQ w oq cq (p.shared ++ p.locks) Sq)) hc ⟨hq, hq.lt, loc_of fun a b h hk => h.kept hk⟩ hnq.2
 refine vy (y_lensl rfl underlying23) ?_
 refine ym ?_
 refine et (vk7 1 3 4 6 24 25 26 (vc_block ?_))
 refine vc_loop (w0 := w0) (M := []) (fun (j : Nat) => [(1, .pointer (some ⟨b1, 0, none⟩)), (3, e.pm), (4, e.pf), (6, e.ps), (24, .slice oq (p.shared ++ p.locks).length cq), (25, .int .i64 ((p.shared ++ p.locks).length : Int)), (26, .int .i64 (j : Int))]) (fun j => [.tree e.E e.ins, .tree [e.b] (fun w => MapK w e.b (addAll (((p.shared ++ p.locks).take j).map (·.nm)) [])), .tree Sq (fun w => DcRQ w oq cq (p.shared ++ p.locks) Sq), .blk b1 (.cells (pgL p os ol ot cs cl ct).toArray 26 (0, 0))]) (fun j _ => j ≤ (p.shared ++ p.locks).length) (fun j => (p.shared ++ p.locks).length - j) 0 ⟨rfl, rfl, rfl, rfl, rfl, rfl, rfl, trivial⟩ (st.pick [2, 3, 0, 4] rfl (by decide)) (by omega) ?_
 clear st
 rintro j w hj st
 refine sr ?_
 refine vy (y_lss rfl rfl) ?_
 refine et (vk8 1 3 4 6 24 25 26 27 (vc_seq ?_))
 refine vif ?_ ?_
 ·intro hc27
  try simp only [dn] at hc27
  obtain ⟨x, hx⟩ : ∃ x, (p.shared ++ p.locks)[j]? = some x := ⟨_, List.getElem?_eq_getElem (by omega)⟩
  have hR := DcR.toRow (T := fun b => b ∈ Sq) (st.res (i := 2) rfl).1 (fun b hb => hb)
  have stK := st
  obtain ⟨gb, go, rfl, hgS, hgl, hg⟩ := DcRow.at hR (by omega)
  have hc := hg j x hx
  have st := stK
  clear stK
  refine kt (vk7 1 3 4 6 24 25 26 (vc_seq (vc_block (sr ?_))))
  refine vy (y_ia (k := j) rfl rfl underlying23 sizeOf63 rfl (by omega)) ?_
  refine vy (y_ldca (dcL x) rfl isAgg63 sizeOf63 rfl (fun i v hi => hc i v hi)) ?_
  refine vc_e (e_al (l := [_, _, _]) st rfl rfl zeroValue63 rfl ?_)
  intro b8 w hb8 st
  refine vc_e (ests st 0 [_, _, _] sizeOf63 ?_)
  intro w st; dsimp only [setNth, wr] at st
  refine et (vk8 1 3 4 6 8 24 25 26 (vc_region ?_))
  refine vy (y_ldc rfl isAgg101 (cell_nth (st.res (i := 1) rfl).1.f rfl)) ?_
  refine vy (y_fa0 rfl underlying63 rfl rfl sizeOf9 rfl) ?_
  refine yl st 0 isAgg9 ?_
  refine vc_e (e_callv [_] rfl rfl rfl call60 rfl (add_any e hd x.nm _ _ (st.res (i := 2) rfl).1 (st.res (i := 1) rfl).1) ?_)
  rintro _ w ⟨rfl, hm, hc⟩
  replace st := st.turn (i := 2) (r' := .tree [e.b] (fun w => MapK w e.b _)) rfl rfl rfl hc (.inr hge) ⟨hm, by simpa using hm.lt, Loc_MapK _ _⟩
  dsimp only [setNth] at st
  refine vc_end (vq_block (vq_then (vk7 1 3 4 6 24 25 26 (vc_region ?_))))
  refine vy (y_add rfl rfl (by omega : _ = ((j + 1 : Nat) : Int)) (by omega) (by omega)) ?_
  refine ym ?_
  refine vc_end ?_
  refine vq_again (j + 1)  ⟨rfl, rfl, rfl, rfl, rfl, rfl, rfl, trivial⟩ (by rw [map_step hx, addAll_app]; exact st.pick [1, 2, 3, 4] rfl (by decide)) ?_ ?_
  ·omega
  omega
 intro hc27
 try simp only [dn] at hc27
 obtain rfl : j = (p.shared ++ p.locks).length := by omega
 rw [List.take_length] at st
 refine vc_exit (vq_then_exit (vq_then_exit (vq_block_exit (vq_then (vk4 1 3 4 6 (vc_seq (sr ?_)))))))
 refine yfz 2 underlying26 sizeOf24 ?_
 refine yl st 3 isAgg24 ?_
 refine vy (y_lensl rfl underlying24) ?_
 refine ym ?_
 refine et (vk6 3 4 6 36 37 38 (vc_block ?_))
 refine vc_loop (w0 := w0) (M := []) (fun (j : Nat) => [(3, e.pm), (4, e.pf), (6, e.ps), (36, .slice ot p.threads.length ct), (37, .int .i64 (p.threads.length : Int)), (38, .int .i64 (j : Int))]) (fun j => [.tree e.E e.ins, .tree [e.b] (fun w => MapK w e.b (kT p j))]) (fun j _ => j ≤ p.threads.length) (fun j => p.threads.length - j) 0 ⟨rfl, rfl, rfl, rfl, rfl, rfl, trivial⟩ (st.pick [0, 1] rfl (by decide)) (by omega) ?_
 clear st
 rintro j w hj st
 refine sr ?_
 refine vy (y_lss rfl rfl) ?_
 refine et (vk7 3 4 6 36 37 38 39 (vc_seq ?_))
 refine vif ?_ ?_
 ·intro hc39
  try simp only [dn] at hc39
  have stK := st
  obtain ⟨t, htj⟩ : ∃ t, p.threads[j]? = some t := ⟨_, List.getElem?_eq_getElem (by omega)⟩
  obtain ⟨gb, go, rfl, hgS, hgl, hg⟩ := ThRow.at hT (by omega)
  obtain ⟨tl, tb, cll, cbb, htl, htb, hc⟩ := hg j t htj
  have hkt := hok.2.2.2 j t htj
  have hkl := hkt.1.1
  have st := stK
  clear stK
  refine kt (vk6 3 4 6 36 37 38 (vc_seq (vc_block (sr ?_))))
  refine vy (y_ia (k := j) rfl rfl underlying24 sizeOf69 rfl (by omega)) ?_
  refine vy (y_ldca (thL t tl tb cll cbb) rfl isAgg69 sizeOf69 rfl (fun i v hi => st.chg.cell (hc i v hi) (by simp))) ?_
  refine vc_e (e_al (l := [_, _, _, _]) st rfl rfl zeroValue69 rfl ?_)
  intro b10 w hb10 st
  refine vc_e (ests st 0 [_, _, _, _] sizeOf69 ?_)
  intro w st; dsimp only [setNth, wr] at st
  refine et (vk7 3 4 6 10 36 37 38 (sr ?_))
  refine vy (y_ldc rfl isAgg101 (cell_nth (st.res (i := 1) rfl).1.f rfl)) ?_
  refine vy (y_fa0 rfl underlying69 rfl rfl sizeOf9 rfl) ?_
  refine yl st 0 isAgg9 ?_
  refine vc_e (e_callv [_] rfl rfl rfl call60 rfl (add_any e hd t.nm _ _ (st.res (i := 2) rfl).1 (st.res (i := 1) rfl).1) ?_)
  rintro _ w ⟨rfl, hm, hc⟩
  replace st := st.turn (i := 2) (r' := .tree [e.b] (fun w => MapK w e.b _)) rfl rfl rfl hc (.inr hge) ⟨hm, by simpa using hm.lt, Loc_MapK _ _⟩
  dsimp only [setNth] at st
  refine et (vk7 3 4 6 10 36 37 38 (vc_seq (sr ?_)))
  refine yfz 1 underlying69 sizeOf23 ?_
  refine yl st 0 isAgg23 ?_
  refine vy (y_lensl rfl underlying23) ?_
  refine ym ?_
  refine et (vk10 3 4 6 10 36 37 38 47 48 49 (vc_block ?_))
  refine vc_loop (w0 := w0) (M := []) (fun (i : Nat) => [(3, e.pm), (4, e.pf), (6, e.ps), (10, .pointer (some ⟨b10, 0, none⟩)), (36, .slice (some ⟨gb, go, none⟩) p.threads.length ct), (37, .int .i64 (p.threads.length : Int)), (38, .int .i64 (j : Int)), (47, .slice tl t.locals.length cll), (48, .int .i64 (t.locals.length : Int)), (49, .int .i64 (i : Int))]) (fun i => [.blk b10 (.cells (thL t tl tb cll cbb).toArray 69 (0, 0)), .tree e.E e.ins, .tree [e.b] (fun w => MapK w e.b (addAll ((t.locals.take i).map (·.nm)) (addK t.nm (kT p j))))]) (fun i _ => i ≤ t.locals.length) (fun i => t.locals.length - i) 0 ⟨rfl, rfl, rfl, rfl, rfl, rfl, rfl, rfl, rfl, rfl, trivial⟩ st (by omega) ?_
  clear st
  rintro i w hi st
  refine sr ?_
  refine vy (y_lss rfl rfl) ?_
  refine et (vc_keep [(3, _), (4, _), (6, _), (10, _), (36, _), (37, _), (38, _), (47, _), (48, _), (49, _), (50, _)] ⟨rfl, rfl, rfl, rfl, rfl, rfl, rfl, rfl, rfl, rfl, rfl, trivial⟩ (vc_seq ?_))
  refine vif ?_ ?_
  ·intro hc50
   try simp only [dn] at hc50
   have stK := st
   obtain ⟨x, hx⟩ : ∃ x, t.locals[i]? = some x := ⟨_, List.getElem?_eq_getElem (by omega)⟩
   obtain ⟨lb, lo, rfl, hlS, hll, hlg⟩ := DcRow.at htl (by omega)
   have hlc := hlg i x hx
   have st := stK
   clear stK
   refine kt (vk10 3 4 6 10 36 37 38 47 48 49 (vc_seq (vc_block (sr ?_))))
   refine vy (y_ia (k := i) rfl rfl underlying23 sizeOf63 rfl (by omega)) ?_
   refine vy (y_ldca (dcL x) rfl isAgg63 sizeOf63 rfl (fun i v hi => st.chg.cell (hlc i v hi) (by simp))) ?_
   refine vc_e (e_al (l := [_, _, _]) st rfl rfl zeroValue63 rfl ?_)
   intro b12 w hb12 st
   refine vc_e (ests st 0 [_, _, _] sizeOf63 ?_)
   intro w st; dsimp only [setNth, wr] at st
   refine et (vc_keep [(3, _), (4, _), (6, _), (10, _), (12, _), (36, _), (37, _), (38, _), (47, _), (48, _), (49, _)] ⟨rfl, rfl, rfl, rfl, rfl, rfl, rfl, rfl, rfl, rfl, rfl, trivial⟩ (vc_region ?_))
   refine vy (y_ldc rfl isAgg101 (cell_nth (st.res (i := 2) rfl).1.f rfl)) ?_
   refine vy (y_fa0 rfl underlying63 rfl rfl sizeOf9 rfl) ?_
   refine yl st 0 isAgg9 ?_
   refine vc_e (e_callv [_] rfl rfl rfl call60 rfl (add_any e hd x.nm _ _ (st.res (i := 3) rfl).1 (st.res (i := 2) rfl).1) ?_)
   rintro _ w ⟨rfl, hm, hc⟩
   replace st := st.turn (i := 3) (r' := .tree [e.b] (fun w => MapK w e.b _)) rfl rfl rfl hc (.inr hge) ⟨hm, by simpa using hm.lt, Loc_MapK _ _⟩
   dsimp only [setNth] at st
   refine vc_end (vq_block (vq_then (vk10 3 4 6 10 36 37 38 47 48 49 (vc_region ?_))))
   refine vy (y_add rfl rfl (by omega : _ = ((i + 1 : Nat) : Int)) (by omega) (by omega)) ?_
   refine ym ?_
   refine vc_end ?_
   refine vq_again (i + 1)  ⟨rfl, rfl, rfl, rfl, rfl, rfl, rfl, rfl, rfl, rfl, trivial⟩ (by rw [map_step hx, addAll_app]; exact st.pick [1, 2, 3] rfl (by decide)) ?_ ?_
   ·omega
   omega
  intro hc50
  try simp only [dn] at hc50
  obtain rfl : i = t.locals.length := by omega
  rw [List.take_length] at st
  refine vc_exit (vq_then_exit (vq_then_exit (vq_block_exit (vq_then (vk7 3 4 6 10 36 37 38 (vc_region ?_))))))
  refine vy (y_ldc rfl isAgg103 (cell_nth (st.res (i := 1) rfl).1.s rfl)) ?_
  refine yfz 2 underlying69 sizeOf65 ?_
  refine yl st 0 isAgg65 ?_
  refine vc_e (e_callv [_] rfl rfl rfl call62 rfl (nsl_any (S := S) e hd (fun hh => by have := hS _ hh; omega) _ t.body rfl hkt.2.1 _ _ _ _ (htb.kept st.sm) (st.res (i := 2) rfl).1 (st.res (i := 1) rfl).1) ?_)
  rintro _ w ⟨rfl, hm, hc⟩
  replace st := st.turn (i := 2) (r' := .tree [e.b] (fun w => MapK w e.b _)) rfl rfl rfl hc (.inr hge) ⟨hm, by simpa using hm.lt, Loc_MapK _ _⟩
  dsimp only [setNth] at st
  refine vc_end (vq_block (vq_then (vk6 3 4 6 36 37 38 (vc_region ?_))))
  refine vy (y_add rfl rfl (by omega : _ = ((j + 1 : Nat) : Int)) (by omega) (by omega)) ?_
  refine ym ?_
  refine vc_end ?_
  refine vq_again (j + 1)  ⟨rfl, rfl, rfl, rfl, rfl, rfl, trivial⟩ (by show St _ _ [_, .tree [e.b] (fun w => MapK w e.b (addAll ((p.threads.take (j + 1)).flatMap nmsT) (kD p)))] _; rw [flat_step htj, addAll_app, nmsT, addAll_app, List.singleton_append, addAll_cons]; exact st.pick [1, 2] rfl (by decide)) ?_ ?_
  ·omega
  omega
 intro hc39
 try simp only [dn] at hc39
 obtain rfl : j = p.threads.length := by omega
 rw [kT_all] at st
 have hK : (kAll p).length ≤ 4398046511104 := by have := addAll_len (nmsP p) []; simp at this; exact Nat.le_trans this hlen
 refine vc_exit (vq_then_exit (vq_then_exit (vq_block_exit (vq_then (vk1 3 (sr ?_))))))
 refine ya ?_
 refine et (vk2 3 13 (vc_seq (sr ?_)))
 refine vy (y_ldc rfl isAgg100 (cell_nth (st.res (i := 0) rfl).1.m rfl)) ?_
 refine vc_e (e_rg st 1 rfl rfl rfl rfl underlying100 ?_)
 intro r64 w hr64 hne64 st; dsimp only [setNth] at st
 refine et (vk2 13 64 (vc_block ?_))
 refine vc_loop (w0 := w0) (M := []) (fun (z : Option Addr × Nat × List Wd) => [(13, .slice z.1 z.2.2.length z.2.1), (64, .pointer (some ⟨r64, 0, none⟩))]) (fun z => [.own (.slice z.1 z.2.2.length z.2.1) 9 1 z.2.2.length (z.2.2.map str), .tree [e.b, r64] (fun w => IterK w e.b r64 (kAll p) z.2.2)]) (fun z _ => z.2.2.length ≤ (kAll p).length) (fun z => (kAll p).length - z.2.2.length) (none, 0, []) ⟨rfl, rfl, trivial⟩ ((st.ownNil 9 1).pick [0, 2] rfl (by decide)) (by simp) ?_
 clear st
 rintro ⟨o13, c13, dn⟩ w hdl st
 dsimp only at *
 refine sr ?_
 refine vc_e (e_nx st 1 rfl rfl rfl rfl (by assumption) (by (right; assumption)) ?_)
 intro t65 rest65 dn65 w hF65 hT65 st; dsimp only [setNth] at st
 refine vy (y_ext rfl rfl) ?_
 refine et (vk3 13 64 66 (vc_seq ?_))
 refine vif ?_ ?_
 ·intro hc66
  try simp only [dn] at hc66
  obtain ⟨s, rfl, hlt⟩ := hT65 hc66
  refine kt (vk2 13 64 (vc_block (sr ?_)))
  refine vc_e (e_en st 1 rfl rfl rfl rfl ?_)
  intro c67
  refine vy (y_ext rfl rfl) ?_
  refine ya ?_
  refine et (vk3 13 14 64 (vc_region ?_))
  iterate 2 refine ym ?_
  refine vc_e (e_bs1 (l := [_]) st rfl rfl rfl rfl underlying50 sizeOf9 rfl rfl rfl zeroValue9 ?_)
  intro b71 w hb71 st
  refine vc_e (e_app (bytes := 16) st 1 0 rfl rfl rfl rfl rfl rfl underlying50 Tryz.info9 rfl rfl rfl rfl rfl (by simp) rfl rfl (by unfold maxLen; omega) (by omega) ?_)
  intro oa72 cap72 w st; dsimp only [setNth] at st
  refine ya ?_
  refine vc_end (vq_block ?_)
  refine vq_again (oa72, cap72, dn ++ [s])  ⟨by rw [show (dn ++ [s]).length = dn.length + 1 by simp]; rfl, rfl, trivial⟩ (by rw [show (dn ++ [s]).length = dn.length + 1 by simp, List.map_append]; exact st.pick [1, 2] rfl (by decide)) ?_ ?_
  ·simp; omega
  simp; omega
 intro hc66
 try simp only [dn] at hc66
 obtain ⟨rfl, hperm⟩ := hF65 hc66
 refine vc_exit (vq_then_exit (vq_then_exit (vq_block_exit (vq_then (vk1 13 (sr ?_))))))
 refine ym ?_
 refine vc_e (e_call [_] rfl rfl call64 rfl (sort_any w0.heap.size _ _ _ _ (by have := hperm.length_eq; omega) (st.res (i := 0) rfl)) ?_)
 rintro _ w ⟨rfl, ho, hc⟩
 replace st := st.swap (i := 0) (r' := .own (.slice o13 dn65.length c13) 9 1 dn65.length ((sortW dn65).map str)) rfl hc (fun k hk => hk) (fun k hk => .inr (own_ge (st.res (i := 0) rfl) k hk)) (fun k hk => .inl hk) ho
 dsimp only [setNth] at st
 refine et (vk1 13 (sr ?_))
 refine ym ?_
 refine ya ?_
 refine et (vk1 2 (vc_ret ?_))
 refine vr1 st results21 ?_
 have hsrt : sortW dn65 = namesL p := sort_perm hperm
 rw [hsrt] at st
 have hl : (namesL p).length = dn65.length := by rw [← hsrt]; simp [sortW]
 refine ⟨_, _, by rw [hl], ?_, st.chg⟩
 rw [hl]
 exact st.res (i := 0) rfl
end Go.Proofs.YtnmhlpnapgojjaaGreatDoor


/- When trees are the same: no program in sight. -/
namespace LexS
open Sx
def zipA {α β : Type} (f : α → β → Bool) : List α → List β → Bool
  | [], [] => true
  | x :: r, y :: s => f x y && zipA f r s
  | _, _ => false
theorem zipA_len {α β : Type} {f : α → β → Bool} : ∀ {a : List α} {b : List β}, a.length ≠ b.length → zipA f a b = false
  | [], [], h => absurd rfl h
  | x :: r, y :: s, h => by simp only [zipA, zipA_len (f := f) (a := r) (b := s) (by simpa using h), Bool.and_false]
  | [], _ :: _, _ => rfl
  | _ :: _, [], _ => rfl
theorem zipA_no {α β : Type} {f : α → β → Bool} : ∀ {a : List α} {b : List β} {j : Nat} {x : α} {y : β}, a[j]? = some x → b[j]? = some y → f x y = false → zipA f a b = false
  | [], _, j, x, y, h, _, _ => by simp at h
  | _ :: _, [], j, x, y, _, h, _ => by simp at h
  | u :: r, v :: s, 0, x, y, h1, h2, h => by simp at h1 h2; subst h1 h2; simp [zipA, h]
  | u :: r, v :: s, j + 1, x, y, h1, h2, h => by simp only [zipA, zipA_no (f := f) (a := r) (b := s) (by simpa using h1) (by simpa using h2) h, Bool.and_false]
theorem zipA_yes {α β : Type} {f : α → β → Bool} : ∀ {a : List α} {b : List β}, a.length = b.length → (∀ (j : Nat) x y, j < a.length → a[j]? = some x → b[j]? = some y → f x y = true) → zipA f a b = true
  | [], [], _, _ => rfl
  | u :: r, v :: s, hl, h => by
    simp only [zipA, Bool.and_eq_true]
    exact ⟨h 0 u v (by simp) rfl rfl, zipA_yes (by simpa using hl) fun j x y hj h1 h2 => h (j + 1) x y (by simp; omega) (by simpa using h1) (by simpa using h2)⟩
  | [], _ :: _, hl, _ => by simp at hl
  | _ :: _, [], hl, _ => by simp at hl
mutual
def sameE : Ex → Ex → Bool
  | .mk k op wd nm kids a, y => decide (k = y.k ∧ op = y.op ∧ wd = y.wd ∧ nm = y.nm) && sameEs kids y.kids
termination_by structural e => e
def sameEs : List Ex → List Ex → Bool
  | [], l => l.isEmpty
  | x :: r, l => match l with | [] => false | y :: s => sameE x y && sameEs r s
termination_by structural l => l
end
theorem sameEs_eq : ∀ (a b : List Ex), sameEs a b = zipA sameE a b
  | [], [] => rfl
  | [], _ :: _ => rfl
  | _ :: _, [] => by simp [sameEs, zipA]
  | x :: r, y :: s => by simp only [sameEs, zipA, sameEs_eq r s]
theorem sameE_eq (e y : Ex) : sameE e y = (decide (e.k = y.k ∧ e.op = y.op ∧ e.wd = y.wd ∧ e.nm = y.nm) && zipA sameE e.kids y.kids) := by
  cases e; rw [sameE, sameEs_eq]; rfl
mutual
def sameS : Sm → Sm → Bool
  | .mk k nm other e body els a, y => decide (k = y.k ∧ nm = y.nm ∧ other = y.other) && zipA sameE e y.e && sameSs body y.body && sameSs els y.els
termination_by structural e => e
def sameSs : List Sm → List Sm → Bool
  | [], l => l.isEmpty
  | x :: r, l => match l with | [] => false | y :: s => sameS x y && sameSs r s
termination_by structural l => l
end
theorem sameSs_eq : ∀ (a b : List Sm), sameSs a b = zipA sameS a b
  | [], [] => rfl
  | [], _ :: _ => rfl
  | _ :: _, [] => by simp [sameSs, zipA]
  | x :: r, y :: s => by simp only [sameSs, zipA, sameSs_eq r s]
theorem sameS_eq (s y : Sm) : sameS s y = (decide (s.k = y.k ∧ s.nm = y.nm ∧ s.other = y.other) && zipA sameE s.e y.e && zipA sameS s.body y.body && zipA sameS s.els y.els) := by
  cases s; rw [sameS, sameSs_eq, sameSs_eq]; rfl
def sameD (d y : Dc) : Bool := decide (d.nm = y.nm ∧ d.wd = y.wd)
def sameT (t y : Th) : Bool := decide (t.nm = y.nm) && zipA sameD t.locals y.locals && zipA sameS t.body y.body
def sameP (p q : Pg) : Bool := zipA sameD p.shared q.shared && zipA sameD p.locks q.locks && zipA sameT p.threads q.threads
theorem memE_lt {e x : Ex} (h : x ∈ e.kids) : SizeOf.sizeOf x < SizeOf.sizeOf e := by
  cases e with
  | mk k op wd nm kids a =>
    have := List.sizeOf_lt_of_mem h
    simp only [Ex.kids] at this
    simp only [Ex.mk.sizeOf_spec]; omega
theorem memS_lt {s x : Sm} (h : x ∈ s.body ∨ x ∈ s.els) : SizeOf.sizeOf x < SizeOf.sizeOf s := by
  cases s with
  | mk k nm other e body els a =>
    simp only [Sm.body, Sm.els] at h
    simp only [Sm.mk.sizeOf_spec]
    rcases h with h | h <;> (have := List.sizeOf_lt_of_mem h; omega)
end LexS


namespace Go.Proofs.YtnmhlpnapgojjaaGreatDoor
open Go.RowKit Sx LexS _root_.Go.Proofs.Tryz
section
variable {n : Fr} {kn : Kn} {w : World} {d ty : Nat} {pos : String} {aft : Array Edge} {g : Option (Nat × Bool)}
end
end Go.Proofs.YtnmhlpnapgojjaaGreatDoor


namespace Go.Proofs.YtnmhlpnapgojjaaGreatDoor
open Go.RowKit Sx LexS _root_.Go.Proofs.Tryz
section
variable {S : Nat → Prop}

end
end Go.Proofs.YtnmhlpnapgojjaaGreatDoor


namespace Go.Proofs.YtnmhlpnapgojjaaGreatDoor
open Go.RowKit Sx LexS _root_.Go.Proofs.Tryz
section
variable {S : Nat → Prop}
end
end Go.Proofs.YtnmhlpnapgojjaaGreatDoor


namespace Go.Proofs.YtnmhlpnapgojjaaGreatDoor
open Go.RowKit Sx LexS _root_.Go.Proofs.Tryz
section
variable {n0 : Nat}

end
end Go.Proofs.YtnmhlpnapgojjaaGreatDoor


namespace Go.Proofs.YtnmhlpnapgojjaaGreatDoor
open Go.RowKit Sx LexS _root_.Go.Proofs.Tryz
section
variable {n0 : Nat}

end
end Go.Proofs.YtnmhlpnapgojjaaGreatDoor


namespace Go.Proofs.YtnmhlpnapgojjaaGreatDoor
open Go.RowKit Sx LexS _root_.Go.Proofs.Tryz
section
variable {n0 : Nat}

set_option maxHeartbeats 1000000 in
theorem pcopyE_any : ∀ (n : Nat) (es : List Ex), szo es = n → OkEs es → ∀ (oa : Option Addr) (cap : Nat) (w : World), ExRow w (· < n0) oa es → n0 ≤ w.heap.size →
    Ret Tryz.prog 207 [.slice oa es.length cap] w fun v w' => ∃ oq cq Sq, v = .slice oq es.length cq ∧ ExRQ w' oq cq es Sq ∧ Nw w.heap.size Sq ∧ Chg [] w w' := by
 intro n
 refine Nat.strongRecOn n fun n ih => ?_
 intro es hn hok oa cap w hr hn0
 subst hn
 have hle := hok.1
 refine ret_of [_] func207 rfl ntmps207 rfl ?_
 have st := St.init w []
 obtain ⟨w0, rfl⟩ : ∃ w0, w0 = w := ⟨_, rfl⟩
 replace st := St.pushR (r := .tree [] (fun w => ExSs 42 w [] [] [])) st (Chg.refl _ _) (holds_of (by simp [ExSs]) (by simp) (fun a b h hk => h.kept hk)) (by simp [Res.at?])
 replace st := st.ownNil 42 6
 refine sr ?_
 refine ya ?_
 refine et (vk1 0 (sr ?_))
 refine ya ?_
 refine et (vk2 0 3 (vc_seq (sr ?_)))
 refine ym ?_
 refine vy (y_lensl rfl underlying40) ?_
 refine ym ?_
 refine et (vk4 3 6 7 8 (vc_block ?_))
 refine vc_loop (w0 := w0) (M := []) (fun (y : Nat × Option Addr × Nat × List Value × List Nat) => [(3, .slice y.2.1 y.1 y.2.2.1), (6, .slice oa es.length cap), (7, .int .i64 (es.length : Int)), (8, .int .i64 (y.1 : Int))]) (fun y => [.own (.slice y.2.1 y.1 y.2.2.1) 42 6 y.1 y.2.2.2.1, .tree y.2.2.2.2 (fun w => ExSs 42 w (es.take y.1) y.2.2.2.1 y.2.2.2.2)]) (fun y _ => y.1 ≤ es.length ∧ Nw w0.heap.size y.2.2.2.2) (fun y => es.length - y.1) (0, none, 0, [], []) ⟨rfl, rfl, rfl, rfl, trivial⟩ (by simpa using st) ⟨by simp, Nw.nil⟩ ?_
 clear st
 rintro ⟨j, oj, cj, xs, S⟩ w ⟨hj, hSS⟩ st
 dsimp only at *
 refine sr ?_
 refine vy (y_lss rfl rfl) ?_
 refine et (vk5 3 6 7 8 9 (vc_seq ?_))
 refine vif ?_ ?_
 ·intro hc9
  try simp only [dn] at hc9
  have stK := st
  obtain ⟨e, hej⟩ : ∃ e, es[j]? = some e := ⟨_, List.getElem?_eq_getElem (by omega)⟩
  obtain ⟨gb, go, rfl, hgS, hgl, hg⟩ := ExRow.at hr (by omega)
  obtain ⟨o0, c0, hV0, hr0, hc0⟩ := hg j e hej
  have hke := hok.2 j e hej
  have hz := mem_size hej
  have hz2 : szo e.kids < szo es := by have : szo e.kids < szo e := by cases e; exact ex_size
                                       omega
  have st := stK
  clear stK
  refine kt (vk4 3 6 7 8 (vc_seq (vc_block (sr ?_))))
  refine vy (y_ia (k := j) rfl rfl underlying40 sizeOf42 rfl (by omega)) ?_
  refine vy (y_ldca (exL e o0 c0) rfl isAgg42 sizeOf42 rfl (fun i v hi => st.chg.cell (hc0 i v hi) (by simp))) ?_
  refine vc_e (e_al (l := [_, _, _, _, _, _]) st rfl rfl zeroValue42 rfl ?_)
  intro b5 w hb5 st
  refine vc_e (ests st 0 [_, _, _, _, _, _] sizeOf42 ?_)
  intro w st; dsimp only [setNth, wr] at st
  refine et (vk5 3 5 6 7 8 (sr ?_))
  refine yfz 4 underlying42 sizeOf40 ?_
  refine yl st 0 isAgg40 ?_
  refine vc_e (e_call [_] rfl rfl call207 rfl (ih _ hz2 e.kids rfl hke.kids _ _ _ (hr0.kept st.sm) (Nat.le_trans hn0 st.chg.size)) ?_)
  rintro _ w ⟨oq, cq, Sq, rfl, hQ, hN, cw⟩
  have hN9 := hN.le st.chg.size
  replace st := St.pushR (r := .tree Sq (fun w => ExRQ w oq cq e.kids Sq)) st cw (holds_of hQ hQ.lt (fun a b h hk => h.kept hk)) hN.2
  refine yfz 4 underlying42 sizeOf40 ?_
  refine vc_e (est st 1 sizeOf40 ?_)
  intro w st; dsimp only [setNth, wr] at st
  refine et (vk5 3 5 6 7 8 (vc_region ?_))
  refine ym ?_
  refine yla st 1 [_, _, _, _, _, _] isAgg42 sizeOf42 ?_
  refine vc_e (e_bs1 (l := [_, _, _, _, _, _]) st rfl rfl rfl rfl underlying40 sizeOf42 rfl rfl rfl zeroValue42 ?_)
  intro b18 w hb18 st
  refine vc_e (e_app (bytes := 64) st 3 0 rfl rfl rfl rfl rfl rfl underlying40 Tryz.info42 rfl rfl rfl rfl rfl (by simp) rfl rfl (by unfold maxLen; omega) (by omega) ?_)
  intro oaQ capQ w st; dsimp only [setNth] at st
  refine ya ?_
  refine vc_end (vq_block (vq_then (vk4 3 6 7 8 (vc_region ?_))))
  have hne : ∀ b ∈ S, b ∉ Sq := fun b hb => st.ne (i := 4) (j := 1) (by decide) rfl rfl b hb
  have stN := st.pick [4, 1, 3] rfl (by decide)
  have h1 := (stN.res (i := 0) rfl).1
  have h2 := (stN.res (i := 1) rfl).1
  have h3 : ExSs 42 w (es.take (j + 1)) (xs ++ exL e oq cq) (S ++ Sq) := by rw [take_snoc hej]; exact ExSs.snoc h1 (ExS_iff.2 ⟨oq, cq, rfl, h2⟩)
  replace stN := (stN.join (q := .tree (S ++ Sq) fun w => ExSs 42 w (es.take (j + 1)) (xs ++ exL e oq cq) (S ++ Sq)) (fun k hk => List.mem_append.1 hk) (holds_of h3 h3.lt (fun a b h hk => h.kept hk))).pick [1, 0] rfl (by decide)
  refine vy (y_add rfl rfl (by omega : _ = ((j + 1 : Nat) : Int)) (by omega) (by omega)) ?_
  refine ym ?_
  refine vc_end ?_
  refine vq_again (j + 1, oaQ, capQ, xs ++ exL e oq cq, S ++ Sq)  ⟨rfl, rfl, rfl, rfl, trivial⟩ stN ?_ ?_
  ·exact ⟨by dsimp only; omega, hSS.app hN9 hne⟩
  dsimp only; omega
 intro hc9
 try simp only [dn] at hc9
 refine vc_exit (vq_then_exit (vq_then_exit (vq_block_exit (vq_then (vk1 3 (sr ?_))))))
 refine ym ?_
 refine ya ?_
 refine et (vk1 2 (vc_ret ?_))
 refine vr1 st results207 ?_
 obtain rfl : j = es.length := by omega
 rw [List.take_length] at st
 obtain ⟨h1, h2⟩ := st.ownNw (i := 0) rfl
 have h3 := (st.res (i := 1) rfl).1
 exact ⟨oj, cj, obk oj ++ S, rfl, ⟨xs, S, h1, rfl, h3⟩, h2.app hSS (fun b hb => st.ne (i := 0) (j := 1) (by decide) rfl rfl b (by simpa [Res.at?, obk_own] using hb)), st.chg⟩
set_option maxHeartbeats 1000000 in
theorem pcopyS_any : ∀ (n : Nat) (es : List Sm), szo es = n → OkSs es → ∀ (oa : Option Addr) (cap : Nat) (w : World), SmRow w (· < n0) oa es → n0 ≤ w.heap.size →
    Ret Tryz.prog 158 [.slice oa es.length cap] w fun v w' => ∃ oq cq Sq, v = .slice oq es.length cq ∧ SmRQ w' oq cq es Sq ∧ Nw w.heap.size Sq ∧ Chg [] w w' := by
 intro n
 refine Nat.strongRecOn n fun n ih => ?_
 intro es hn hok oa cap w hr hn0
 subst hn
 have hle := hok.1
 refine ret_of [_] func158 rfl ntmps158 rfl ?_
 have st := St.init w []
 obtain ⟨w0, rfl⟩ : ∃ w0, w0 = w := ⟨_, rfl⟩
 replace st := St.pushR (r := .tree [] (fun w => SmSs 42 67 w [] [] [])) st (Chg.refl _ _) (holds_of (by simp [SmSs]) (by simp) (fun a b h hk => h.kept hk)) (by simp [Res.at?])
 replace st := st.ownNil 67 7
 refine sr ?_
 refine ya ?_
 refine et (vk1 0 (sr ?_))
 refine ya ?_
 refine et (vk2 0 3 (vc_seq (sr ?_)))
 refine ym ?_
 refine vy (y_lensl rfl underlying65) ?_
 refine ym ?_
 refine et (vk4 3 6 7 8 (vc_block ?_))
 refine vc_loop (w0 := w0) (M := []) (fun (y : Nat × Option Addr × Nat × List Value × List Nat) => [(3, .slice y.2.1 y.1 y.2.2.1), (6, .slice oa es.length cap), (7, .int .i64 (es.length : Int)), (8, .int .i64 (y.1 : Int))]) (fun y => [.own (.slice y.2.1 y.1 y.2.2.1) 67 7 y.1 y.2.2.2.1, .tree y.2.2.2.2 (fun w => SmSs 42 67 w (es.take y.1) y.2.2.2.1 y.2.2.2.2)]) (fun y _ => y.1 ≤ es.length ∧ Nw w0.heap.size y.2.2.2.2) (fun y => es.length - y.1) (0, none, 0, [], []) ⟨rfl, rfl, rfl, rfl, trivial⟩ (by simpa using st) ⟨by simp, Nw.nil⟩ ?_
 clear st
 rintro ⟨j, oj, cj, xs, S⟩ w ⟨hj, hSS⟩ st
 dsimp only at *
 refine sr ?_
 refine vy (y_lss rfl rfl) ?_
 refine et (vk5 3 6 7 8 9 (vc_seq ?_))
 refine vif ?_ ?_
 ·intro hc9
  try simp only [dn] at hc9
  have stK := st
  obtain ⟨s, hsj⟩ : ∃ s, es[j]? = some s := ⟨_, List.getElem?_eq_getElem (by omega)⟩
  obtain ⟨gb, go, rfl, hgS, hgl, hg⟩ := SmRow.at hr (by omega)
  obtain ⟨oe, ob, ol, ce, cb, cl, hsV, hse, hsb, hsl, hc⟩ := hg j s hsj
  have hks := hok.2 j s hsj
  have hz := mem_size hsj
  have hB : szo s.body < szo es := by have : szo s.body < szo s := by cases s; exact sm_size.1
                                      omega
  have hL : szo s.els < szo es := by have : szo s.els < szo s := by cases s; exact sm_size.2
                                     omega
  have st := stK
  clear stK
  refine kt (vk4 3 6 7 8 (vc_seq (vc_block (sr ?_))))
  refine vy (y_ia (k := j) rfl rfl underlying65 sizeOf67 rfl (by omega)) ?_
  refine vy (y_ldca (smL s oe ob ol ce cb cl) rfl isAgg67 sizeOf67 rfl (fun i v hi => st.chg.cell (hc i v hi) (by simp))) ?_
  refine vc_e (e_al (l := [_, _, _, _, _, _, _]) st rfl rfl zeroValue67 rfl ?_)
  intro b5 w hb5 st
  refine vc_e (ests st 0 [_, _, _, _, _, _, _] sizeOf67 ?_)
  intro w st; dsimp only [setNth, wr] at st
  refine et (vk5 3 5 6 7 8 (vc_seq ?_))
  refine kdr Tryz.mixed [Yt 0, Yt 3, Yt 6, Yt 1, Yt 4, Yt 7, Nt 2, Yt 9, Nt 5, Nt 8, Nt 10, Yt 11, Nt 12, Yt 13, Nt 14] 10 [.blk b5 (.cells (smL s oe ob ol ce cb cl).toArray 67 (0, 0))] st ?_
  clear st; intro w st hS
  refine vk_takeU rfl rfl rfl rfl (fun _ => hS) (fun w => (by exact y_faz (k := 3) rfl underlying67 rfl rfl sizeOf40 rfl)) ?_
  refine vk_takeU rfl rfl rfl rfl (fun _ => hS) (fun w => (by exact y_faz (k := 4) rfl underlying67 rfl rfl sizeOf65 rfl)) ?_
  refine vk_takeU rfl rfl rfl rfl (fun _ => hS) (fun w => (by exact y_faz (k := 5) rfl underlying67 rfl rfl sizeOf65 rfl)) ?_
  refine vk_take rfl rfl rfl rfl hS (fun w st => y_ld st 0 rfl isAgg40 rfl rfl) ?_
  iterate 2 refine vk_take rfl rfl rfl rfl hS (fun w st => y_ld st 0 rfl isAgg65 rfl rfl) ?_
  refine vk_do rfl rfl (e_call [_] rfl rfl call207 rfl (pcopyE_any _ s.e rfl hks.e _ _ _ (hse.kept st.sm) (Nat.le_trans hn0 st.chg.size)) ?_)
  rintro _ w ⟨q1, c1, S1, rfl, hQ, hN, cw⟩
  have hN1 := hN.le st.chg.size
  replace st := St.pushR (r := .tree S1 (fun w => ExRQ w q1 c1 s.e S1)) st cw (holds_of hQ hQ.lt (fun a b h hk => h.kept hk)) hN.2
  refine vk_next st.dr ?_; intro hS
  refine vk_takeU rfl rfl rfl rfl (fun _ => hS) (fun w => (by exact y_faz (k := 3) rfl underlying67 rfl rfl sizeOf40 rfl)) ?_
  refine vk_do rfl rfl (e_call [_] rfl rfl call158 rfl (ih _ hB s.body rfl hks.body _ _ _ (hsb.kept st.sm) (Nat.le_trans hn0 st.chg.size)) ?_)
  rintro _ w ⟨q2, c2, S2, rfl, hQ, hN, cw⟩
  have hN2 := hN.le st.chg.size
  replace st := St.pushR (r := .tree S2 (fun w => SmRQ w q2 c2 s.body S2)) st cw (holds_of hQ hQ.lt (fun a b h hk => h.kept hk)) hN.2
  refine vk_next st.dr ?_; intro hS
  refine vk_do rfl rfl (e_call [_] rfl rfl call158 rfl (ih _ hL s.els rfl hks.els _ _ _ (hsl.kept st.sm) (Nat.le_trans hn0 st.chg.size)) ?_)
  rintro _ w ⟨q3, c3, S3, rfl, hQ, hN, cw⟩
  have hN3 := hN.le st.chg.size
  replace st := St.pushR (r := .tree S3 (fun w => SmRQ w q3 c3 s.els S3)) st cw (holds_of hQ hQ.lt (fun a b h hk => h.kept hk)) hN.2
  refine vk_next st.dr ?_; intro hS
  refine vk_do rfl rfl (est st 3 sizeOf40 ?_)
  intro w st; dsimp only [setNth, wr] at st
  refine vk_late ?_
  refine vk_takeU rfl rfl rfl rfl (fun h => by cases h) (fun w => (by exact y_faz (k := 4) rfl underlying67 rfl rfl sizeOf65 rfl)) ?_
  refine vk_do rfl rfl (est st 3 sizeOf65 ?_)
  intro w st; dsimp only [setNth, wr] at st
  refine vk_late ?_
  refine vk_takeU rfl rfl rfl rfl (fun h => by cases h) (fun w => (by exact y_faz (k := 5) rfl underlying67 rfl rfl sizeOf65 rfl)) ?_
  refine vk_do rfl rfl (est st 3 sizeOf65 ?_)
  intro w st; dsimp only [setNth, wr] at st
  refine vk_late ?_
  refine vk_end ?_
  refine vq_then (vk5 3 5 6 7 8 (vc_region ?_))
  refine ym ?_
  refine yla st 3 [_, _, _, _, _, _, _] isAgg67 sizeOf67 ?_
  refine vc_e (e_bs1 (l := [_, _, _, _, _, _, _]) st rfl rfl rfl rfl underlying65 sizeOf67 rfl rfl rfl zeroValue67 ?_)
  intro b26 w hb26 st
  refine vc_e (e_app (bytes := 120) st 5 0 rfl rfl rfl rfl rfl rfl underlying65 Tryz.info67 rfl rfl rfl rfl rfl (by simp) rfl rfl (by unfold maxLen; omega) (by omega) ?_)
  intro oaQ capQ w st; dsimp only [setNth] at st
  refine ya ?_
  refine vc_end (vq_block (vq_then (vk4 3 6 7 8 (vc_region ?_))))
  have d23 := st.ne (i := 2) (j := 1) (by decide) rfl rfl
  have d12 := st.ne (i := 3) (j := 2) (by decide) rfl rfl
  have d13 := st.ne (i := 3) (j := 1) (by decide) rfl rfl
  have dS1 := st.ne (i := 6) (j := 3) (by decide) rfl rfl
  have dS2 := st.ne (i := 6) (j := 2) (by decide) rfl rfl
  have dS3 := st.ne (i := 6) (j := 1) (by decide) rfl rfl
  have hNq := hN1.app (hN2.app hN3 d23) (fun b hb hb' => (List.mem_append.1 hb').elim (d12 b hb) (d13 b hb))
  have hne : ∀ b ∈ S, b ∉ S1 ++ (S2 ++ S3) := fun b hb hb' => (List.mem_append.1 hb').elim (dS1 b hb) fun h => (List.mem_append.1 h).elim (dS2 b hb) (dS3 b hb)
  have h0 := (st.res (i := 6) rfl).1
  have h1 := (st.res (i := 3) rfl).1
  have h2 := (st.res (i := 2) rfl).1
  have h3 := (st.res (i := 1) rfl).1
  have h4 : SmSs 42 67 w (es.take (j + 1)) (xs ++ smL s q1 q2 q3 c1 c2 c3) (S ++ (S1 ++ (S2 ++ S3))) := by rw [take_snoc hsj]; exact SmSs.snoc h0 (SmS_iff.2 ⟨q1, c1, q2, c2, q3, c3, S1, S2, S3, rfl, h1, h2, h3, rfl⟩)
  have stN := (((st.pick [6, 3, 2, 1, 5] rfl (by decide)).joinN 4 (q := .tree (S ++ (S1 ++ (S2 ++ S3))) fun w => SmSs 42 67 w (es.take (j + 1)) (xs ++ smL s q1 q2 q3 c1 c2 c3) (S ++ (S1 ++ (S2 ++ S3)))) (fun k hk => by
    simp only [Res.at?, List.mem_append] at hk
    rcases hk with h | h | h | h
    · exact ⟨_, .head _, h⟩
    · exact ⟨_, .tail _ (.head _), h⟩
    · exact ⟨_, .tail _ (.tail _ (.head _)), h⟩
    · exact ⟨_, .tail _ (.tail _ (.tail _ (.head _))), h⟩) (holds_of h4 h4.lt (fun a b h hk => h.kept hk)))).pick [1, 0] rfl (by decide)
  refine vy (y_add rfl rfl (by omega : _ = ((j + 1 : Nat) : Int)) (by omega) (by omega)) ?_
  refine ym ?_
  refine vc_end ?_
  refine vq_again (j + 1, oaQ, capQ, xs ++ smL s q1 q2 q3 c1 c2 c3, S ++ (S1 ++ (S2 ++ S3)))  ⟨rfl, rfl, rfl, rfl, trivial⟩ stN ?_ ?_
  ·exact ⟨by dsimp only; omega, hSS.app hNq hne⟩
  dsimp only; omega
 intro hc9
 try simp only [dn] at hc9
 refine vc_exit (vq_then_exit (vq_then_exit (vq_block_exit (vq_then (vk1 3 (sr ?_))))))
 refine ym ?_
 refine ya ?_
 refine et (vk1 2 (vc_ret ?_))
 refine vr1 st results158 ?_
 obtain rfl : j = es.length := by omega
 rw [List.take_length] at st
 obtain ⟨h1, h2⟩ := st.ownNw (i := 0) rfl
 have h3 := (st.res (i := 1) rfl).1
 exact ⟨oj, cj, obk oj ++ S, rfl, ⟨xs, S, h1, rfl, h3⟩, h2.app hSS (fun b hb => st.ne (i := 0) (j := 1) (by decide) rfl rfl b (by simpa [Res.at?, obk_own] using hb)), st.chg⟩
end
end Go.Proofs.YtnmhlpnapgojjaaGreatDoor


namespace Go.Proofs.YtnmhlpnapgojjaaGreatDoor
open Go.RowKit Sx LexS _root_.Go.Proofs.Tryz
/-- what the closures turn names and places by, and where these lie -/
structure Env where
 g : List UInt8 → List UInt8
 h : Int → Int
 fn : Nat
 fa : Nat
 cn : List Value
 ca : List Value
 bn : Nat
 ba : Nat
 be : Nat
 bs : Nat
 E : List Nat
 ψ : World → Prop
namespace Env
def pn (e : Env) : Value := .pointer (some ⟨e.bn, 0, none⟩)
def pa (e : Env) : Value := .pointer (some ⟨e.ba, 0, none⟩)
def pe (e : Env) : Value := .pointer (some ⟨e.be, 0, none⟩)
def ps (e : Env) : Value := .pointer (some ⟨e.bs, 0, none⟩)
/-- the boxes of the two functions -/
def in2 (e : Env) (w : World) : Prop := w.heap[e.bn]? = some (.cells [.func (.func e.fn) #[] e.cn.toArray].toArray 95 (0, 0)) ∧ w.heap[e.ba]? = some (.cells [.func (.func e.fa) #[] e.ca.toArray].toArray 97 (0, 0)) ∧ e.ψ w
def in3 (e : Env) (w : World) : Prop := e.in2 w ∧ w.heap[e.be]? = some (.cells [.func (.func 119) #[] [e.pn, e.pa, e.pe].toArray].toArray 102 (0, 0))
def in4 (e : Env) (w : World) : Prop := e.in3 w ∧ w.heap[e.bs]? = some (.cells [.func (.func 120) #[] [e.pn, e.pa, e.pe, e.ps].toArray].toArray 103 (0, 0))
structure Ok (e : Env) : Prop where
 nm : ∀ s w, e.ψ w → Ret Tryz.prog e.fn ([] ++ [str s] ++ e.cn) w fun v w' => v = str (e.g s) ∧ w' = w
 at_ : ∀ a w, e.ψ w → Ret Tryz.prog e.fa ([] ++ [.int .i64 a] ++ e.ca) w fun v w' => v = .int .i64 (e.h a) ∧ w' = w
 loc : ∀ w w', e.ψ w → (∀ b ∈ e.E, w'.heap[b]? = w.heap[b]?) → e.ψ w'
 mn : e.bn ∈ e.E
 ma : e.ba ∈ e.E
 me : e.be ∈ e.E
 ms : e.bs ∈ e.E
 calln : ∀ (xs : Array Value) w, (callFunc e.fn xs).run Tryz.prog w = .ok (.enter e.fn xs) w
 calla : ∀ (xs : Array Value) w, (callFunc e.fa xs).run Tryz.prog w = .ok (.enter e.fa xs) w
variable {e : Env} {w w' : World}
theorem in2.kept (ok : e.Ok) (h : e.in2 w) (hk : ∀ b ∈ e.E, w'.heap[b]? = w.heap[b]?) : e.in2 w' := ⟨by rw [hk _ ok.mn]; exact h.1, by rw [hk _ ok.ma]; exact h.2.1, ok.loc _ _ h.2.2 hk⟩
theorem in3.kept (ok : e.Ok) (h : e.in3 w) (hk : ∀ b ∈ e.E, w'.heap[b]? = w.heap[b]?) : e.in3 w' := ⟨in2.kept ok h.1 hk, by rw [hk _ ok.me]; exact h.2⟩
theorem in4.kept (ok : e.Ok) (h : e.in4 w) (hk : ∀ b ∈ e.E, w'.heap[b]? = w.heap[b]?) : e.in4 w' := ⟨in3.kept ok h.1 hk, by rw [hk _ ok.ms]; exact h.2⟩
end Env
section
variable {e : Env} {cap : Nat}
theorem loc_dc {oa : Option Addr} {ds : List Dc} {S : List Nat} : Sx.Loc S fun w => DcRQ w oa cap ds S := loc_of fun a b h hk => h.kept hk
theorem loc_ex {oa : Option Addr} {ds : List Ex} {S : List Nat} : Sx.Loc S fun w => ExRQ w oa cap ds S := loc_of fun a b h hk => h.kept hk
theorem loc_sm {oa : Option Addr} {ds : List Sm} {S : List Nat} : Sx.Loc S fun w => SmRQ w oa cap ds S := loc_of fun a b h hk => h.kept hk
theorem loc_th {oa : Option Addr} {ds : List Th} {S : List Nat} : Sx.Loc S fun w => ThRQ w oa cap ds S := loc_of fun a b h hk => h.kept hk
end
section

set_option maxHeartbeats 1000000 in
theorem dl_any (e : Env) (ok : e.Ok) (ds : List Dc) (hn : ds.length ≤ 1099511627776) (oa : Option Addr) (cap : Nat) (S : List Nat) (w : World) (hQ : DcRQ w oa cap ds S) (hS : S.Nodup) (hE : e.in2 w) (hEl : ∀ b ∈ e.E, b < w.heap.size) (hd : ∀ b ∈ S, b ∉ e.E) :
    Ret Tryz.prog 118 ([] ++ [.slice oa ds.length cap] ++ [e.pn, e.pa]) w fun v w' => v = .tuple #[] ∧ DcRQ w' oa cap (ds.map (trD e.g e.h)) S ∧ Chg S w w' := by
 refine ret_of [_, _, _] func118 rfl ntmps118 rfl ?_
 have st := St.init w S
 clear st
 obtain ⟨w0, rfl⟩ : ∃ w0, w0 = w := ⟨_, rfl⟩
 have st := St.two (w := w0) (φ := fun w => DcRQ w oa cap ds S) (ψ := e.in2) hQ hE hQ.lt hEl loc_dc (loc_of fun a b h hk => Env.in2.kept ok h hk) hd
 have hSM : ∀ k ∈ S, k ∈ S ∨ w0.heap.size ≤ k := fun k hk => .inl hk
 refine sr ?_
 refine ym ?_
 refine vy (y_lensl rfl underlying23) ?_
 refine ym ?_
 refine et (vk5 0 1 2 6 7 (vc_block ?_))
 refine vc_loop (w0 := w0) (M := S) (fun (j : Nat) => [(0, .slice oa ds.length cap), (1, e.pn), (2, e.pa), (6, .int .i64 (ds.length : Int)), (7, .int .i64 (j : Int))]) (fun j => [.tree S (fun w => DcRQ w oa cap (mixL (trD e.g e.h) ds j) S), .tree e.E e.in2]) (fun j _ => j ≤ ds.length) (fun j => ds.length - j) 0 ⟨rfl, rfl, rfl, rfl, rfl, trivial⟩ (by simpa only [mixL_zero] using st) (by omega) ?_
 clear st
 rintro j w hj st
 refine sr ?_
 refine vy (y_lss rfl rfl) ?_
 refine et (vk6 0 1 2 6 7 8 (vc_seq ?_))
 refine vif ?_ ?_
 ·intro hc8
  try simp only [dn] at hc8
  obtain ⟨x, hx⟩ : ∃ x, ds[j]? = some x := ⟨_, List.getElem?_eq_getElem (by omega)⟩
  have hmx := mixL_get (f := trD e.g e.h) hx
  have stK := st
  obtain ⟨b, rfl, hrow, hcells, -, -⟩ := dcR_focus (st.res (i := 0) rfl).1 hmx
  have st := stK
  clear stK
  have hcell0 : ∀ w, DcRQ w (some ⟨b, 0, none⟩) cap (mixL (trD e.g e.h) ds j) S → w.cell? ⟨b, j * 3 + 0, none⟩ = some (str x.nm) ∧ w.cell? ⟨b, j * 3 + 2, none⟩ = some (.int .i64 x.a) := fun w h => by
   obtain ⟨b', hb', -, hc, -, -⟩ := dcR_focus h hmx
   simp only [Option.some.injEq, Addr.mk.injEq, and_true] at hb'
   subst hb'
   exact ⟨hc 0 _ rfl, hc 2 _ rfl⟩
  refine kt (vk5 0 1 2 6 7 (vc_seq (vc_block (sr ?_))))
  refine ym ?_
  refine ya ?_
  refine et (vk6 0 1 2 4 6 7 ?_)
  refine kdr Tryz.mixed [Yt 0, Yt 1, Yt 2, Yt 3, Yt 5, Yt 6, Yt 7, Yt 8, Yt 12, Yt 13, Yt 14, Yt 15, Yt 4, Yt 9, Yt 11, Yt 16, Nt 10, Nt 17, Yt 18, Yt 19, Nt 20, Yt 21, Yt 22, Nt 23] 20 [.tree S (fun w => DcRQ w (some ⟨b, 0, none⟩) cap (mixL (trD e.g e.h) ds j) S), .tree e.E e.in2] st ?_
  clear st; intro w st hS
  iterate 6 refine km hS ?_
  refine vk_takeU rfl rfl rfl rfl (fun _ => hS) (fun w => (by exact y_ia0 (k := j) rfl rfl underlying23 sizeOf63 rfl (by omega))) ?_
  refine vk_takeU rfl rfl rfl rfl (fun _ => hS) (fun w => y_fa0 rfl underlying63 rfl rfl sizeOf9 rfl) ?_
  iterate 2 refine km hS ?_
  refine vk_takeU rfl rfl rfl rfl (fun _ => hS) (fun w => (by exact y_ia0 (k := j) rfl rfl underlying23 sizeOf63 rfl (by omega))) ?_
  refine vk_takeU rfl rfl rfl rfl (fun _ => hS) (fun w => (by exact y_fa (k := 2) rfl underlying63 rfl rfl sizeOf3 rfl)) ?_
  refine vk_take rfl rfl rfl rfl hS (fun w st => y_ldc rfl isAgg95 (cell_nth (st.res (i := 1) rfl).1.1 rfl)) ?_
  refine vk_take rfl rfl rfl rfl hS (fun w st => y_ldc rfl isAgg9 (hcell0 _ (st.res (i := 0) rfl).1).1) ?_
  refine vk_take rfl rfl rfl rfl hS (fun w st => y_ldc rfl isAgg97 (cell_nth (st.res (i := 1) rfl).1.2.1 rfl)) ?_
  refine vk_take rfl rfl rfl rfl hS (fun w st => y_ldc rfl isAgg3 (hcell0 _ (st.res (i := 0) rfl).1).2) ?_
  refine vk_do rfl rfl (e_callv [_] rfl rfl rfl ok.calln rfl (ok.nm x.nm _ (st.res (i := 1) rfl).1.2.2) ?_)
  rintro _ _ ⟨rfl, rfl⟩
  refine vk_next (by exact st) ?_; intro hS
  refine vk_do rfl rfl (e_callv [_] rfl rfl rfl ok.calla rfl (ok.at_ x.a _ (st.res (i := 1) rfl).1.2.2) ?_)
  rintro _ _ ⟨rfl, rfl⟩
  refine vk_next (by exact st) ?_; intro hS
  refine vk_takeU rfl rfl rfl rfl (fun _ => hS) (fun w => (by exact y_ia0 (k := j) rfl rfl underlying23 sizeOf63 rfl (by omega))) ?_
  refine vk_takeU rfl rfl rfl rfl (fun _ => hS) (fun w => y_fa0 rfl underlying63 rfl rfl sizeOf9 rfl) ?_
  obtain ⟨b1, hb1, r1, c1, s1, -⟩ := dcR_focus (st.res (i := 0) rfl).1 hmx
  simp only [Option.some.injEq, Addr.mk.injEq, and_true] at hb1
  subst hb1
  refine vk_do rfl rfl (e_stT st 0 (ψ := fun w => DcRQ w (some ⟨b, 0, none⟩) cap ((mixL (trD e.g e.h) ds j).set j { x with nm := e.g x.nm }) S) rfl rfl rfl rfl sizeOf9 rfl r1.mem (hSM _ r1.mem) ⟨_, c1 0 _ rfl⟩ (r1.fz _) (s1 _) loc_dc ?_)
  intro w st; dsimp only [setNth] at st
  refine vk_late ?_
  refine vk_takeU rfl rfl rfl rfl (fun h => by cases h) (fun w => (by exact y_ia0 (k := j) rfl rfl underlying23 sizeOf63 rfl (by omega))) ?_
  refine vk_takeU rfl rfl rfl rfl (fun h => by cases h) (fun w => (by exact y_fa (k := 2) rfl underlying63 rfl rfl sizeOf3 rfl)) ?_
  have hmx2 : ((mixL (trD e.g e.h) ds j).set j { x with nm := e.g x.nm })[j]? = some { x with nm := e.g x.nm } := by rw [List.getElem?_set_self (by rw [mixL_len]; omega)]
  obtain ⟨b2, hb2, r2, c2, -, s2⟩ := dcR_focus (st.res (i := 0) rfl).1 hmx2
  simp only [Option.some.injEq, Addr.mk.injEq, and_true] at hb2
  subst hb2
  have hstep : ((mixL (trD e.g e.h) ds j).set j { x with nm := e.g x.nm }).set j { ({ x with nm := e.g x.nm } : Dc) with a := e.h x.a } = mixL (trD e.g e.h) ds (j + 1) := by rw [List.set_set]; exact mixL_step (f := trD e.g e.h) hx
  refine vk_do rfl rfl (e_stT st 0 (ψ := fun w => DcRQ w (some ⟨b, 0, none⟩) cap (mixL (trD e.g e.h) ds (j + 1)) S) rfl rfl rfl rfl sizeOf3 rfl r2.mem (hSM _ r2.mem) ⟨_, c2 2 _ rfl⟩ (r2.fz _) (hstep ▸ s2 (e.h x.a)) loc_dc ?_)
  intro w st; dsimp only [setNth] at st
  refine vk_late ?_
  refine vk_end ?_
  refine vq_block (vq_then (vk5 0 1 2 6 7 (vc_region ?_)))
  refine vy (y_add rfl rfl (by omega : _ = ((j + 1 : Nat) : Int)) (by omega) (by omega)) ?_
  refine ym ?_
  refine vc_end ?_
  refine vq_again (j + 1)  ⟨rfl, rfl, rfl, rfl, rfl, trivial⟩ st ?_ ?_
  ·omega
  omega
 intro hc8
 try simp only [dn] at hc8
 refine vc_exit (vq_then_exit (vq_then_exit (vq_block_exit ?_)))
 refine vq_ret0 (.inr rfl) results118 ?_
 refine ⟨_, rfl, ?_⟩
 obtain rfl : j = ds.length := by omega
 rw [mixL_all] at st
 exact ⟨rfl, (st.res (i := 0) rfl).1, st.chg⟩
end
end Go.Proofs.YtnmhlpnapgojjaaGreatDoor


namespace Go.Proofs.YtnmhlpnapgojjaaGreatDoor
open Go.RowKit Sx LexS _root_.Go.Proofs.Tryz
theorem trEs_len {g : List UInt8 → List UInt8} {h : Int → Int} (l : List Ex) : (trEs g h l).length = l.length := by rw [trEs_map, List.length_map]
theorem trSs_len {g : List UInt8 → List UInt8} {h : Int → Int} (l : List Sm) : (trSs g h l).length = l.length := by rw [trSs_map, List.length_map]
/-- an expression, its name and place turned -/
def eNA (e : Env) (x : Ex) : Ex := (x.setNm (e.g x.nm)).setAt (e.h x.a)
theorem eNA_kids (e : Env) (x : Ex) : (eNA e x).kids = x.kids := by cases x; rfl
theorem eNA_end (e : Env) (x : Ex) : (eNA e x).setKids (trEs e.g e.h x.kids) = trE e.g e.h x := by cases x; rfl
theorem set_get {α : Type} {l : List α} {j : Nat} {x y : α} (h : l[j]? = some x) : (l.set j y)[j]? = some y := by
 rw [List.getElem?_set_self (List.getElem?_eq_some_iff.1 h).1]
set_option maxHeartbeats 2000000 in
theorem el_any (e : Env) (ok : e.Ok) : ∀ (n : Nat) (es : List Ex), szo es = n → OkEs es → ∀ (oa : Option Addr) (cap : Nat) (S : List Nat) (w : World), ExRQ w oa cap es S → S.Nodup → e.in3 w → (∀ b ∈ e.E, b < w.heap.size) → (∀ b ∈ S, b ∉ e.E) →
    Ret Tryz.prog 119 ([] ++ [.slice oa es.length cap] ++ [e.pn, e.pa, e.pe]) w fun v w' => v = .tuple #[] ∧ ExRQ w' oa cap (trEs e.g e.h es) S ∧ Chg S w w' := by
 intro n
 refine Nat.strongRecOn n fun n ih => ?_
 intro es hn hok oa cap S w hQ hSN hE hEl hd
 subst hn
 have hn := hok.1
 refine ret_of [_, _, _, _] func119 rfl ntmps119 rfl ?_
 have st := St.init w S
 clear st
 obtain ⟨w0, rfl⟩ : ∃ w0, w0 = w := ⟨_, rfl⟩
 have st := St.two (w := w0) (φ := fun w => ExRQ w oa cap es S) (ψ := e.in3) hQ hE hQ.lt hEl loc_ex (loc_of fun a b h hk => Env.in3.kept ok h hk) hd
 have hSM : ∀ k ∈ S, k ∈ S ∨ w0.heap.size ≤ k := fun k hk => .inl hk
 refine sr ?_
 refine ym ?_
 refine vy (y_lensl rfl underlying40) ?_
 refine ym ?_
 refine et (vk6 0 1 2 3 7 8 (vc_block ?_))
 refine vc_loop (w0 := w0) (M := S) (fun (j : Nat) => [(0, .slice oa es.length cap), (1, e.pn), (2, e.pa), (3, e.pe), (7, .int .i64 (es.length : Int)), (8, .int .i64 (j : Int))]) (fun j => [.tree S (fun w => ExRQ w oa cap (mixL (trE e.g e.h) es j) S), .tree e.E e.in3]) (fun j _ => j ≤ es.length) (fun j => es.length - j) 0 ⟨rfl, rfl, rfl, rfl, rfl, rfl, trivial⟩ (by simpa only [mixL_zero] using st) (by omega) ?_
 clear st
 rintro j w hj st
 refine sr ?_
 refine vy (y_lss rfl rfl) ?_
 refine et (vk7 0 1 2 3 7 8 9 (vc_seq ?_))
 refine vif ?_ ?_
 ·intro hc9
  try simp only [dn] at hc9
  obtain ⟨x, hx⟩ : ∃ x, es[j]? = some x := ⟨_, List.getElem?_eq_getElem (by omega)⟩
  have hkx := hok.2 j x hx
  have hz := mem_size hx
  have hz2 : szo x.kids < szo es := by have := szo_kids x; omega
  have hmx := mixL_get (f := trE e.g e.h) hx
  have hm1 : ((mixL (trE e.g e.h) es j).set j (x.setNm (e.g x.nm)))[j]? = some (x.setNm (e.g x.nm)) := set_get hmx
  have hm2 : ((mixL (trE e.g e.h) es j).set j (eNA e x))[j]? = some (eNA e x) := set_get hmx
  have hs12 : ((mixL (trE e.g e.h) es j).set j (x.setNm (e.g x.nm))).set j ((x.setNm (e.g x.nm)).setAt (e.h x.a)) = (mixL (trE e.g e.h) es j).set j (eNA e x) := List.set_set ..
  have hs23 : ((mixL (trE e.g e.h) es j).set j (eNA e x)).set j ((eNA e x).setKids (trEs e.g e.h x.kids)) = mixL (trE e.g e.h) es (j + 1) := by rw [List.set_set, eNA_end]; exact mixL_step hx
  have stK := st
  obtain ⟨b, o0, c0, S0, rfl, -⟩ := exR_focus (st.res (i := 0) rfl).1 hSN hmx
  have st := stK
  clear stK
  have hcell0 : ∀ w, ExRQ w (some ⟨b, 0, none⟩) cap (mixL (trE e.g e.h) es j) S → w.cell? ⟨b, j * 6 + 3, none⟩ = some (str x.nm) ∧ w.cell? ⟨b, j * 6 + 5, none⟩ = some (.int .i64 x.a) := fun w h => by
   obtain ⟨b', o', c', S', hb', -, hc, -⟩ := exR_focus h hSN hmx
   simp only [Option.some.injEq, Addr.mk.injEq, and_true] at hb'
   subst hb'
   exact ⟨hc 3 _ rfl, hc 5 _ rfl⟩
  refine kt (vk6 0 1 2 3 7 8 (vc_seq (vc_block (sr ?_))))
  refine ym ?_
  refine ya ?_
  refine et (vk7 0 1 2 3 5 7 8 (vc_seq ?_))
  refine kdr Tryz.mixed [Yt 0, Yt 1, Yt 2, Yt 3, Yt 5, Yt 6, Yt 7, Yt 8, Yt 12, Yt 13, Yt 14, Yt 15, Yt 4, Yt 9, Yt 11, Yt 16, Nt 10, Nt 17, Yt 18, Yt 19, Nt 20, Yt 21, Yt 22, Nt 23] 20 [.tree S (fun w => ExRQ w (some ⟨b, 0, none⟩) cap (mixL (trE e.g e.h) es j) S), .tree e.E e.in3] st ?_
  clear st; intro w st hS
  iterate 6 refine km hS ?_
  refine vk_takeU rfl rfl rfl rfl (fun _ => hS) (fun w => (by exact y_ia0 (k := j) rfl rfl underlying40 sizeOf42 rfl (by omega))) ?_
  refine vk_takeU rfl rfl rfl rfl (fun _ => hS) (fun w => (by exact y_fa (k := 3) rfl underlying42 rfl rfl sizeOf9 rfl)) ?_
  iterate 2 refine km hS ?_
  refine vk_takeU rfl rfl rfl rfl (fun _ => hS) (fun w => (by exact y_ia0 (k := j) rfl rfl underlying40 sizeOf42 rfl (by omega))) ?_
  refine vk_takeU rfl rfl rfl rfl (fun _ => hS) (fun w => (by exact y_fa (k := 5) rfl underlying42 rfl rfl sizeOf3 rfl)) ?_
  refine vk_take rfl rfl rfl rfl hS (fun w st => y_ldc rfl isAgg95 (cell_nth (st.res (i := 1) rfl).1.1.1 rfl)) ?_
  refine vk_take rfl rfl rfl rfl hS (fun w st => y_ldc rfl isAgg9 (hcell0 _ (st.res (i := 0) rfl).1).1) ?_
  refine vk_take rfl rfl rfl rfl hS (fun w st => y_ldc rfl isAgg97 (cell_nth (st.res (i := 1) rfl).1.1.2.1 rfl)) ?_
  refine vk_take rfl rfl rfl rfl hS (fun w st => y_ldc rfl isAgg3 (hcell0 _ (st.res (i := 0) rfl).1).2) ?_
  refine vk_do rfl rfl (e_callv [_] rfl rfl rfl ok.calln rfl (ok.nm x.nm _ (st.res (i := 1) rfl).1.1.2.2) ?_)
  rintro _ _ ⟨rfl, rfl⟩
  refine vk_next (by exact st) ?_; intro hS
  refine vk_do rfl rfl (e_callv [_] rfl rfl rfl ok.calla rfl (ok.at_ x.a _ (st.res (i := 1) rfl).1.1.2.2) ?_)
  rintro _ _ ⟨rfl, rfl⟩
  refine vk_next (by exact st) ?_; intro hS
  refine vk_takeU rfl rfl rfl rfl (fun _ => hS) (fun w => (by exact y_ia0 (k := j) rfl rfl underlying40 sizeOf42 rfl (by omega))) ?_
  refine vk_takeU rfl rfl rfl rfl (fun _ => hS) (fun w => (by exact y_fa (k := 3) rfl underlying42 rfl rfl sizeOf9 rfl)) ?_
  obtain ⟨b1, o1, c1, S1, hb1, r1, k1, -, -, -, s1, -⟩ := exR_focus (st.res (i := 0) rfl).1 hSN hmx
  simp only [Option.some.injEq, Addr.mk.injEq, and_true] at hb1
  subst hb1
  refine vk_do rfl rfl (e_stT st 0 (ψ := fun w => ExRQ w (some ⟨b, 0, none⟩) cap ((mixL (trE e.g e.h) es j).set j (x.setNm (e.g x.nm))) S) rfl rfl rfl rfl sizeOf9 rfl r1.mem (hSM _ r1.mem) ⟨_, k1 3 _ rfl⟩ (r1.fz _) (s1 _) loc_ex ?_)
  intro w st; dsimp only [setNth] at st
  refine vk_late ?_
  refine vk_takeU rfl rfl rfl rfl (fun h => by cases h) (fun w => (by exact y_ia0 (k := j) rfl rfl underlying40 sizeOf42 rfl (by omega))) ?_
  refine vk_takeU rfl rfl rfl rfl (fun h => by cases h) (fun w => (by exact y_fa (k := 5) rfl underlying42 rfl rfl sizeOf3 rfl)) ?_
  obtain ⟨b2, o2, c2, S2, hb2, r2, k2, -, -, -, -, s2, -⟩ := exR_focus (st.res (i := 0) rfl).1 hSN hm1
  simp only [Option.some.injEq, Addr.mk.injEq, and_true] at hb2
  subst hb2
  refine vk_do rfl rfl (e_stT st 0 (ψ := fun w => ExRQ w (some ⟨b, 0, none⟩) cap ((mixL (trE e.g e.h) es j).set j (eNA e x)) S) rfl rfl rfl rfl sizeOf3 rfl r2.mem (hSM _ r2.mem) ⟨_, k2 5 _ rfl⟩ (r2.fz _) (hs12 ▸ s2 (e.h x.a)) loc_ex ?_)
  intro w st; dsimp only [setNth] at st
  refine vk_late ?_
  refine vk_end ?_
  refine vq_then (vk7 0 1 2 3 5 7 8 ?_)
  refine kdr Tryz.mixed [Yt 1, Yt 2, Yt 3, Yt 4, Yt 0, Nt 5, Nt 6] 6 [.tree S (fun w => ExRQ w (some ⟨b, 0, none⟩) cap ((mixL (trE e.g e.h) es j).set j (eNA e x)) S), .tree e.E e.in3] st ?_
  clear st; intro w st hS
  iterate 2 refine km hS ?_
  refine vk_takeU rfl rfl rfl rfl (fun _ => hS) (fun w => (by exact y_ia0 (k := j) rfl rfl underlying40 sizeOf42 rfl (by omega))) ?_
  refine vk_takeU rfl rfl rfl rfl (fun _ => hS) (fun w => (by exact y_fa (k := 4) rfl underlying42 rfl rfl sizeOf40 rfl)) ?_
  refine vk_take rfl rfl rfl rfl hS (fun w st => y_ldc rfl isAgg102 (cell_nth (st.res (i := 1) rfl).1.2 rfl)) ?_
  obtain ⟨b3, o3, c3, S3, hb3, r3, k3, q3, n3, sub3, -, -, put3⟩ := exR_focus (st.res (i := 0) rfl).1 hSN hm2
  simp only [Option.some.injEq, Addr.mk.injEq, and_true] at hb3
  subst hb3
  rw [eNA_kids] at q3
  refine vk_do rfl rfl (e_run rfl rfl ((by exact y_ldc rfl isAgg40 (k3 4 (.slice o3 x.kids.length c3) (by rw [eNA_kids]; rfl)))) ?_)
  refine vk_next (by exact st) ?_; intro hS
  refine vk_do rfl rfl (e_callv [_] rfl rfl rfl call119 rfl (ih _ hz2 x.kids rfl hkx.kids o3 c3 S3 _ q3 n3 (st.res (i := 1) rfl).1 (st.res (i := 1) rfl).2.1 (fun k hk => hd k (sub3 k hk))) ?_)
  rintro _ w ⟨rfl, hq, hc⟩
  replace st := st.within (ψ := fun w => ExRQ w (some ⟨b, 0, none⟩) cap (mixL (trE e.g e.h) es (j + 1)) S) hc sub3 hSM (hs23 ▸ put3 w (trEs e.g e.h x.kids) (by rw [trEs_len, eNA_kids]) hq hc) loc_ex
  refine vk_late ?_
  refine vk_end ?_
  refine vq_block (vq_then (vk6 0 1 2 3 7 8 (vc_region ?_)))
  refine vy (y_add rfl rfl (by omega : _ = ((j + 1 : Nat) : Int)) (by omega) (by omega)) ?_
  refine ym ?_
  refine vc_end ?_
  refine vq_again (j + 1)  ⟨rfl, rfl, rfl, rfl, rfl, rfl, trivial⟩ st ?_ ?_
  ·omega
  omega
 intro hc9
 try simp only [dn] at hc9
 refine vc_exit (vq_then_exit (vq_then_exit (vq_block_exit ?_)))
 refine vq_ret0 (.inr rfl) results119 ?_
 refine ⟨_, rfl, ?_⟩
 obtain rfl : j = es.length := by omega
 rw [mixL_all, ← trEs_map] at st
 exact ⟨rfl, (st.res (i := 0) rfl).1, st.chg⟩
end Go.Proofs.YtnmhlpnapgojjaaGreatDoor


namespace Go.Proofs.YtnmhlpnapgojjaaGreatDoor
open Go.RowKit Sx LexS _root_.Go.Proofs.Tryz
def s1 (e : Env) (x : Sm) : Sm := x.setNm (e.g x.nm)
def s2 (e : Env) (x : Sm) : Sm := (s1 e x).setOther (e.g x.other)
def s3 (e : Env) (x : Sm) : Sm := (s2 e x).setAt (e.h x.a)
def s4 (e : Env) (x : Sm) : Sm := (s3 e x).setE (trEs e.g e.h x.e)
def s5 (e : Env) (x : Sm) : Sm := (s4 e x).setBody (trSs e.g e.h x.body)
theorem s3_e (e : Env) (x : Sm) : (s3 e x).e = x.e := by cases x; rfl
theorem s4_body (e : Env) (x : Sm) : (s4 e x).body = x.body := by cases x; rfl
theorem s5_els (e : Env) (x : Sm) : (s5 e x).els = x.els := by cases x; rfl
theorem s5_end (e : Env) (x : Sm) : (s5 e x).setEls (trSs e.g e.h x.els) = trS e.g e.h x := by cases x; rfl

set_option maxHeartbeats 4000000 in
theorem sl_any (e : Env) (ok : e.Ok) : ∀ (n : Nat) (es : List Sm), szo es = n → OkSs es → ∀ (oa : Option Addr) (cap : Nat) (S : List Nat) (w : World), SmRQ w oa cap es S → S.Nodup → e.in4 w → (∀ b ∈ e.E, b < w.heap.size) → (∀ b ∈ S, b ∉ e.E) →
    Ret Tryz.prog 120 ([] ++ [.slice oa es.length cap] ++ [e.pn, e.pa, e.pe, e.ps]) w fun v w' => v = .tuple #[] ∧ SmRQ w' oa cap (trSs e.g e.h es) S ∧ Chg S w w' := by
 intro n
 refine Nat.strongRecOn n fun n ih => ?_
 intro es hn hok oa cap S w hQ hSN hE hEl hd
 subst hn
 have hn := hok.1
 refine ret_of [_, _, _, _, _] func120 rfl ntmps120 rfl ?_
 have st := St.init w S
 clear st
 obtain ⟨w0, rfl⟩ : ∃ w0, w0 = w := ⟨_, rfl⟩
 have st := St.two (w := w0) (φ := fun w => SmRQ w oa cap es S) (ψ := e.in4) hQ hE hQ.lt hEl loc_sm (loc_of fun a b h hk => Env.in4.kept ok h hk) hd
 have hSM : ∀ k ∈ S, k ∈ S ∨ w0.heap.size ≤ k := fun k hk => .inl hk
 refine sr ?_
 refine ym ?_
 refine vy (y_lensl rfl underlying65) ?_
 refine ym ?_
 refine et (vk7 0 1 2 3 4 9 10 (vc_block ?_))
 refine vc_loop (w0 := w0) (M := S) (fun (j : Nat) => [(0, .slice oa es.length cap), (1, e.pn), (2, e.pa), (3, e.pe), (4, e.ps), (9, .int .i64 (es.length : Int)), (10, .int .i64 (j : Int))]) (fun j => [.tree S (fun w => SmRQ w oa cap (mixL (trS e.g e.h) es j) S), .tree e.E e.in4]) (fun j _ => j ≤ es.length) (fun j => es.length - j) 0 ⟨rfl, rfl, rfl, rfl, rfl, rfl, rfl, trivial⟩ (by simpa only [mixL_zero] using st) (by omega) ?_
 clear st
 rintro j w hj st
 refine sr ?_
 refine vy (y_lss rfl rfl) ?_
 refine et (vk8 0 1 2 3 4 9 10 11 (vc_seq ?_))
 refine vif ?_ ?_
 ·intro hc11
  try simp only [dn] at hc11
  obtain ⟨x, hx⟩ : ∃ x, es[j]? = some x := ⟨_, List.getElem?_eq_getElem (by omega)⟩
  have hkx := hok.2 j x hx
  have hz := mem_size hx
  have hzB : szo x.body < szo es := by have : szo x.body < szo x := by cases x; exact sm_size.1
                                       omega
  have hzL : szo x.els < szo es := by have : szo x.els < szo x := by cases x; exact sm_size.2
                                      omega
  have hm0 := mixL_get (f := trS e.g e.h) hx
  have hm1 : ((mixL (trS e.g e.h) es j).set j (s1 e x))[j]? = some (s1 e x) := set_get hm0
  have hm2 : ((mixL (trS e.g e.h) es j).set j (s2 e x))[j]? = some (s2 e x) := set_get hm0
  have hm3 : ((mixL (trS e.g e.h) es j).set j (s3 e x))[j]? = some (s3 e x) := set_get hm0
  have hm4 : ((mixL (trS e.g e.h) es j).set j (s4 e x))[j]? = some (s4 e x) := set_get hm0
  have hm5 : ((mixL (trS e.g e.h) es j).set j (s5 e x))[j]? = some (s5 e x) := set_get hm0
  have h12 : ((mixL (trS e.g e.h) es j).set j (s1 e x)).set j ((s1 e x).setOther (e.g x.other)) = ((mixL (trS e.g e.h) es j).set j (s2 e x)) := List.set_set ..
  have h23 : ((mixL (trS e.g e.h) es j).set j (s2 e x)).set j ((s2 e x).setAt (e.h x.a)) = ((mixL (trS e.g e.h) es j).set j (s3 e x)) := List.set_set ..
  have h34 : ((mixL (trS e.g e.h) es j).set j (s3 e x)).set j ((s3 e x).setE (trEs e.g e.h x.e)) = ((mixL (trS e.g e.h) es j).set j (s4 e x)) := List.set_set ..
  have h45 : ((mixL (trS e.g e.h) es j).set j (s4 e x)).set j ((s4 e x).setBody (trSs e.g e.h x.body)) = ((mixL (trS e.g e.h) es j).set j (s5 e x)) := List.set_set ..
  have h56 : ((mixL (trS e.g e.h) es j).set j (s5 e x)).set j ((s5 e x).setEls (trSs e.g e.h x.els)) = mixL (trS e.g e.h) es (j + 1) := by rw [List.set_set, s5_end]; exact mixL_step hx
  have stK := st
  obtain ⟨b, _, _, _, _, _, _, _, _, _, rfl, -⟩ := smR_focus (st.res (i := 0) rfl).1 hSN hm0
  have st := stK
  clear stK
  have hcell0 : ∀ w, SmRQ w (some ⟨b, 0, none⟩) cap (mixL (trS e.g e.h) es j) S → w.cell? ⟨b, j * 7 + 1, none⟩ = some (str x.nm) ∧ w.cell? ⟨b, j * 7 + 2, none⟩ = some (str x.other) ∧ w.cell? ⟨b, j * 7 + 6, none⟩ = some (.int .i64 x.a) := fun w h => by
   obtain ⟨b', _, _, _, _, _, _, _, _, _, hb', -, hc, -⟩ := smR_focus h hSN hm0
   simp only [Option.some.injEq, Addr.mk.injEq, and_true] at hb'
   subst hb'
   exact ⟨hc 1 _ rfl, hc 2 _ rfl, hc 6 _ rfl⟩
  refine kt (vk7 0 1 2 3 4 9 10 (vc_seq (vc_block (sr ?_))))
  refine ym ?_
  refine ya ?_
  refine et (vk8 0 1 2 3 4 6 9 10 (sr ?_))
  iterate 2 refine ym ?_
  refine vy (y_ia0 (k := j) rfl rfl underlying65 sizeOf67 rfl (by omega)) ?_
  refine ya ?_
  refine et (vk8 0 1 2 3 4 7 9 10 (vc_seq ?_))
  refine kdr Tryz.mixed [Yt 0, Yt 1, Yt 2, Yt 4, Yt 5, Yt 6, Yt 10, Yt 11, Yt 12, Yt 16, Yt 17, Yt 18, Yt 3, Yt 7, Yt 9, Yt 13, Yt 15, Yt 19, Nt 8, Nt 14, Nt 20, Yt 21, Yt 22, Nt 23, Yt 24, Yt 25, Nt 26, Yt 27, Yt 28, Nt 29] 23 [.tree S (fun w => SmRQ w (some ⟨b, 0, none⟩) cap (mixL (trS e.g e.h) es j) S), .tree e.E e.in4] st ?_
  clear st; intro w st hS
  iterate 4 refine km hS ?_
  refine vk_takeU rfl rfl rfl rfl (fun _ => hS) (fun w => y_nck rfl) ?_
  refine vk_takeU rfl rfl rfl rfl (fun _ => hS) (fun w => (by exact y_fa (k := 1) rfl underlying67 rfl rfl sizeOf9 rfl)) ?_
  refine km hS ?_
  refine vk_takeU rfl rfl rfl rfl (fun _ => hS) (fun w => y_nck rfl) ?_
  refine vk_takeU rfl rfl rfl rfl (fun _ => hS) (fun w => (by exact y_fa (k := 2) rfl underlying67 rfl rfl sizeOf9 rfl)) ?_
  refine km hS ?_
  refine vk_takeU rfl rfl rfl rfl (fun _ => hS) (fun w => y_nck rfl) ?_
  refine vk_takeU rfl rfl rfl rfl (fun _ => hS) (fun w => (by exact y_fa (k := 6) rfl underlying67 rfl rfl sizeOf3 rfl)) ?_
  refine vk_take rfl rfl rfl rfl hS (fun w st => y_ldc rfl isAgg95 (cell_nth (st.res (i := 1) rfl).1.1.1.1 rfl)) ?_
  refine vk_take rfl rfl rfl rfl hS (fun w st => y_ldc rfl isAgg9 (hcell0 _ (st.res (i := 0) rfl).1).1) ?_
  refine vk_take rfl rfl rfl rfl hS (fun w st => y_ldc rfl isAgg95 (cell_nth (st.res (i := 1) rfl).1.1.1.1 rfl)) ?_
  refine vk_take rfl rfl rfl rfl hS (fun w st => y_ldc rfl isAgg9 (hcell0 _ (st.res (i := 0) rfl).1).2.1) ?_
  refine vk_take rfl rfl rfl rfl hS (fun w st => y_ldc rfl isAgg97 (cell_nth (st.res (i := 1) rfl).1.1.1.2.1 rfl)) ?_
  refine vk_take rfl rfl rfl rfl hS (fun w st => y_ldc rfl isAgg3 (hcell0 _ (st.res (i := 0) rfl).1).2.2) ?_
  refine vk_do rfl rfl (e_callv [_] rfl rfl rfl ok.calln rfl (ok.nm x.nm _ (st.res (i := 1) rfl).1.1.1.2.2) ?_)
  rintro _ _ ⟨rfl, rfl⟩
  refine vk_next (by exact st) ?_; intro hS
  refine vk_do rfl rfl (e_callv [_] rfl rfl rfl ok.calln rfl (ok.nm x.other _ (st.res (i := 1) rfl).1.1.1.2.2) ?_)
  rintro _ _ ⟨rfl, rfl⟩
  refine vk_next (by exact st) ?_; intro hS
  refine vk_do rfl rfl (e_callv [_] rfl rfl rfl ok.calla rfl (ok.at_ x.a _ (st.res (i := 1) rfl).1.1.1.2.2) ?_)
  rintro _ _ ⟨rfl, rfl⟩
  refine vk_next (by exact st) ?_; intro hS
  refine vk_takeU rfl rfl rfl rfl (fun _ => hS) (fun w => y_nck rfl) ?_
  refine vk_takeU rfl rfl rfl rfl (fun _ => hS) (fun w => (by exact y_fa (k := 1) rfl underlying67 rfl rfl sizeOf9 rfl)) ?_
  obtain ⟨b1, oe1, ce1, ob1, cb1, ol1, cl1, Se1, Sb1, Sl1, hb1, r1, k1, qe1, qb1, ql1, ne1, nb1, nl1, ue1, ub1, ul1, z1, z2, z3, pe1, pb1, pl1⟩ := smR_focus (st.res (i := 0) rfl).1 hSN hm0
  simp only [Option.some.injEq, Addr.mk.injEq, and_true] at hb1
  subst hb1
  refine vk_do rfl rfl (e_stT st 0 (ψ := fun w => SmRQ w (some ⟨b, 0, none⟩) cap ((mixL (trS e.g e.h) es j).set j (s1 e x)) S) rfl rfl rfl rfl sizeOf9 rfl r1.mem (hSM _ r1.mem) ⟨_, k1 1 _ rfl⟩ (r1.fz _) (z1 _) loc_sm ?_)
  intro w st; dsimp only [setNth] at st
  refine vk_late ?_
  refine vk_takeU rfl rfl rfl rfl (fun h => by cases h) (fun w => y_nck rfl) ?_
  refine vk_takeU rfl rfl rfl rfl (fun h => by cases h) (fun w => (by exact y_fa (k := 2) rfl underlying67 rfl rfl sizeOf9 rfl)) ?_
  clear z1 z2 z3
  obtain ⟨b2, oe2, ce2, ob2, cb2, ol2, cl2, Se2, Sb2, Sl2, hb2, r2, k2, qe2, qb2, ql2, ne2, nb2, nl2, ue2, ub2, ul2, z1, z2, z3, pe2, pb2, pl2⟩ := smR_focus (st.res (i := 0) rfl).1 hSN hm1
  simp only [Option.some.injEq, Addr.mk.injEq, and_true] at hb2
  subst hb2
  refine vk_do rfl rfl (e_stT st 0 (ψ := fun w => SmRQ w (some ⟨b, 0, none⟩) cap ((mixL (trS e.g e.h) es j).set j (s2 e x)) S) rfl rfl rfl rfl sizeOf9 rfl r2.mem (hSM _ r2.mem) ⟨_, k2 2 _ rfl⟩ (r2.fz _) (h12 ▸ z2 _) loc_sm ?_)
  intro w st; dsimp only [setNth] at st
  refine vk_late ?_
  refine vk_takeU rfl rfl rfl rfl (fun h => by cases h) (fun w => y_nck rfl) ?_
  refine vk_takeU rfl rfl rfl rfl (fun h => by cases h) (fun w => (by exact y_fa (k := 6) rfl underlying67 rfl rfl sizeOf3 rfl)) ?_
  clear z1 z2 z3
  obtain ⟨b3, oe3, ce3, ob3, cb3, ol3, cl3, Se3, Sb3, Sl3, hb3, r3, k3, qe3, qb3, ql3, ne3, nb3, nl3, ue3, ub3, ul3, z1, z2, z3, pe3, pb3, pl3⟩ := smR_focus (st.res (i := 0) rfl).1 hSN hm2
  simp only [Option.some.injEq, Addr.mk.injEq, and_true] at hb3
  subst hb3
  refine vk_do rfl rfl (e_stT st 0 (ψ := fun w => SmRQ w (some ⟨b, 0, none⟩) cap ((mixL (trS e.g e.h) es j).set j (s3 e x)) S) rfl rfl rfl rfl sizeOf3 rfl r3.mem (hSM _ r3.mem) ⟨_, k3 6 _ rfl⟩ (r3.fz _) (h23 ▸ z3 _) loc_sm ?_)
  intro w st; dsimp only [setNth] at st
  refine vk_late ?_
  refine vk_end ?_
  refine vq_then (vk8 0 1 2 3 4 7 9 10 (vc_seq ?_))
  refine kdr Tryz.mixed [Yt 1, Yt 2, Yt 3, Yt 0, Nt 4, Nt 5] 5 [.tree S (fun w => SmRQ w (some ⟨b, 0, none⟩) cap ((mixL (trS e.g e.h) es j).set j (s3 e x)) S), .tree e.E e.in4] st ?_
  clear st; intro w st hS
  refine km hS ?_
  refine vk_takeU rfl rfl rfl rfl (fun _ => hS) (fun w => y_nck rfl) ?_
  refine vk_takeU rfl rfl rfl rfl (fun _ => hS) (fun w => (by exact y_fa (k := 3) rfl underlying67 rfl rfl sizeOf40 rfl)) ?_
  refine vk_take rfl rfl rfl rfl hS (fun w st => y_ldc rfl isAgg102 (cell_nth (st.res (i := 1) rfl).1.1.2 rfl)) ?_
  obtain ⟨b4, oe4, ce4, ob4, cb4, ol4, cl4, Se4, Sb4, Sl4, hb4, r4, k4, qe4, qb4, ql4, ne4, nb4, nl4, ue4, ub4, ul4, z1, z2, z3, pe4, pb4, pl4⟩ := smR_focus (st.res (i := 0) rfl).1 hSN hm3
  simp only [Option.some.injEq, Addr.mk.injEq, and_true] at hb4
  subst hb4
  rw [s3_e] at qe4
  refine vk_do rfl rfl (e_run rfl rfl ((by exact y_ldc rfl isAgg40 (k4 3 (.slice oe4 x.e.length ce4) (by rw [s3_e]; rfl)))) ?_)
  refine vk_next (by exact st) ?_; intro hS
  refine vk_do rfl rfl (e_callv [_] rfl rfl rfl call119 rfl (el_any e ok _ x.e rfl hkx.e oe4 ce4 Se4 _ qe4 ne4 (st.res (i := 1) rfl).1.1 (st.res (i := 1) rfl).2.1 (fun k hk => hd k (ue4 k hk))) ?_)
  rintro _ w ⟨rfl, hq, hc⟩
  replace st := st.within (ψ := fun w => SmRQ w (some ⟨b, 0, none⟩) cap ((mixL (trS e.g e.h) es j).set j (s4 e x)) S) hc ue4 hSM (h34 ▸ pe4 w (trEs e.g e.h x.e) (by rw [trEs_len, s3_e]) hq hc) loc_sm
  refine vk_late ?_
  refine vk_end ?_
  refine vq_then (vk8 0 1 2 3 4 7 9 10 (vc_seq ?_))
  refine kdr Tryz.mixed [Yt 1, Yt 2, Yt 3, Yt 0, Nt 4, Nt 5] 5 [.tree S (fun w => SmRQ w (some ⟨b, 0, none⟩) cap ((mixL (trS e.g e.h) es j).set j (s4 e x)) S), .tree e.E e.in4] st ?_
  clear st; intro w st hS
  refine km hS ?_
  refine vk_takeU rfl rfl rfl rfl (fun _ => hS) (fun w => y_nck rfl) ?_
  refine vk_takeU rfl rfl rfl rfl (fun _ => hS) (fun w => (by exact y_fa (k := 4) rfl underlying67 rfl rfl sizeOf65 rfl)) ?_
  refine vk_take rfl rfl rfl rfl hS (fun w st => y_ldc rfl isAgg103 (cell_nth (st.res (i := 1) rfl).1.2 rfl)) ?_
  obtain ⟨b5, oe5, ce5, ob5, cb5, ol5, cl5, Se5, Sb5, Sl5, hb5, r5, k5, qe5, qb5, ql5, ne5, nb5, nl5, ue5, ub5, ul5, z1, z2, z3, pe5, pb5, pl5⟩ := smR_focus (st.res (i := 0) rfl).1 hSN hm4
  simp only [Option.some.injEq, Addr.mk.injEq, and_true] at hb5
  subst hb5
  rw [s4_body] at qb5
  refine vk_do rfl rfl (e_run rfl rfl ((by exact y_ldc rfl isAgg65 (k5 4 (.slice ob5 x.body.length cb5) (by rw [s4_body]; rfl)))) ?_)
  refine vk_next (by exact st) ?_; intro hS
  refine vk_do rfl rfl (e_callv [_] rfl rfl rfl call120 rfl (ih _ hzB x.body rfl hkx.body ob5 cb5 Sb5 _ qb5 nb5 (st.res (i := 1) rfl).1 (st.res (i := 1) rfl).2.1 (fun k hk => hd k (ub5 k hk))) ?_)
  rintro _ w ⟨rfl, hq, hc⟩
  replace st := st.within (ψ := fun w => SmRQ w (some ⟨b, 0, none⟩) cap ((mixL (trS e.g e.h) es j).set j (s5 e x)) S) hc ub5 hSM (h45 ▸ pb5 w (trSs e.g e.h x.body) (by rw [trSs_len, s4_body]) hq hc) loc_sm
  refine vk_late ?_
  refine vk_end ?_
  refine vq_then (vk8 0 1 2 3 4 7 9 10 ?_)
  refine kdr Tryz.mixed [Yt 1, Yt 2, Yt 3, Yt 0, Nt 4, Nt 5] 5 [.tree S (fun w => SmRQ w (some ⟨b, 0, none⟩) cap ((mixL (trS e.g e.h) es j).set j (s5 e x)) S), .tree e.E e.in4] st ?_
  clear st; intro w st hS
  refine km hS ?_
  refine vk_takeU rfl rfl rfl rfl (fun _ => hS) (fun w => y_nck rfl) ?_
  refine vk_takeU rfl rfl rfl rfl (fun _ => hS) (fun w => (by exact y_fa (k := 5) rfl underlying67 rfl rfl sizeOf65 rfl)) ?_
  refine vk_take rfl rfl rfl rfl hS (fun w st => y_ldc rfl isAgg103 (cell_nth (st.res (i := 1) rfl).1.2 rfl)) ?_
  obtain ⟨b6, oe6, ce6, ob6, cb6, ol6, cl6, Se6, Sb6, Sl6, hb6, r6, k6, qe6, qb6, ql6, ne6, nb6, nl6, ue6, ub6, ul6, z1, z2, z3, pe6, pb6, pl6⟩ := smR_focus (st.res (i := 0) rfl).1 hSN hm5
  simp only [Option.some.injEq, Addr.mk.injEq, and_true] at hb6
  subst hb6
  rw [s5_els] at ql6
  refine vk_do rfl rfl (e_run rfl rfl ((by exact y_ldc rfl isAgg65 (k6 5 (.slice ol6 x.els.length cl6) (by rw [s5_els]; rfl)))) ?_)
  refine vk_next (by exact st) ?_; intro hS
  refine vk_do rfl rfl (e_callv [_] rfl rfl rfl call120 rfl (ih _ hzL x.els rfl hkx.els ol6 cl6 Sl6 _ ql6 nl6 (st.res (i := 1) rfl).1 (st.res (i := 1) rfl).2.1 (fun k hk => hd k (ul6 k hk))) ?_)
  rintro _ w ⟨rfl, hq, hc⟩
  replace st := st.within (ψ := fun w => SmRQ w (some ⟨b, 0, none⟩) cap (mixL (trS e.g e.h) es (j + 1)) S) hc ul6 hSM (h56 ▸ pl6 w (trSs e.g e.h x.els) (by rw [trSs_len, s5_els]) hq hc) loc_sm
  refine vk_late ?_
  refine vk_end ?_
  refine vq_block (vq_then (vk7 0 1 2 3 4 9 10 (vc_region ?_)))
  refine vy (y_add rfl rfl (by omega : _ = ((j + 1 : Nat) : Int)) (by omega) (by omega)) ?_
  refine ym ?_
  refine vc_end ?_
  refine vq_again (j + 1)  ⟨rfl, rfl, rfl, rfl, rfl, rfl, rfl, trivial⟩ st ?_ ?_
  ·omega
  omega
 intro hc11
 try simp only [dn] at hc11
 refine vc_exit (vq_then_exit (vq_then_exit (vq_block_exit ?_)))
 refine vq_ret0 (.inr rfl) results120 ?_
 refine ⟨_, rfl, ?_⟩
 obtain rfl : j = es.length := by omega
 rw [mixL_all, ← trSs_map] at st
 exact ⟨rfl, (st.res (i := 0) rfl).1, st.chg⟩
end Go.Proofs.YtnmhlpnapgojjaaGreatDoor


namespace Go.Proofs.YtnmhlpnapgojjaaGreatDoor
open Go.RowKit Sx LexS _root_.Go.Proofs.Tryz
section
variable {n0 : Nat}

set_option maxHeartbeats 2000000 in
theorem pcopyP_any (p : Pg) (hok : OkP p) (os ol ot : Option Addr) (cs cl ct : Nat) (w : World) (hSh : DcRow w (· < n0) os p.shared) (hL : DcRow w (· < n0) ol p.locks) (hT : ThRow w (· < n0) ot p.threads) (hn0 : n0 ≤ w.heap.size) :
    Ret Tryz.prog 117 [.agg (pgL p os ol ot cs cl ct).toArray] w fun v w' => ∃ l S, v = .agg l.toArray ∧ PgQ w' p l S ∧ Nw w.heap.size S ∧ Chg [] w w' := by
 refine ret_of [_] func117 rfl ntmps117 rfl ?_
 have st := St.init w []
 obtain ⟨w0, rfl⟩ : ∃ w0, w0 = w := ⟨_, rfl⟩
 have hn1 := hok.1.1
 have hn2 := hok.2.1.1
 have hn3 := hok.2.2.1
 refine sr ?_
 refine vc_e (e_bx (l := [_, _, _]) st rfl rfl rfl rfl ?_)
 intro b1 w hb1 st
 refine vc_e (e_al (l := [_, _, _]) st rfl rfl zeroValue26 rfl ?_)
 intro b2 w hb2 st
 refine et (vk2 1 2 ?_)
 refine vc_cut (w0 := w0) (M := []) (fun (z : Option Addr × Nat × Option Addr × Nat × Nat) => [(1, .pointer (some ⟨b1, 0, none⟩)), (2, .pointer (some ⟨b2, 0, none⟩)), (3, .pointer (some ⟨z.2.2.2.2, 0, none⟩))]) (fun z => [.blk z.2.2.2.2 (.cells [.slice z.1 p.shared.length z.2.1, .slice z.2.2.1 p.locks.length z.2.2.2.1, .slice none 0 0].toArray 26 (0, 0)), .own (.slice z.1 p.shared.length z.2.1) 63 3 p.shared.length (p.shared.flatMap dcL), .own (.slice z.2.2.1 p.locks.length z.2.2.2.1) 63 3 p.locks.length (p.locks.flatMap dcL), .blk b2 (.cells [.slice none 0 0, .slice none 0 0, .slice none 0 0].toArray 26 (0, 0)), .blk b1 (.cells (pgL p os ol ot cs cl ct).toArray 26 (0, 0))]) (fun z _ => w0.heap.size ≤ z.2.2.2.2) ?_ ?_
 ·refine ddr Tryz.mixed (.take 0 (.take 1 (.take 3 (.take 4 (.two 2 7 (.two 5 7 (.take 6 (.one 7 (.one 8 .done))) (.one 5 (.take 6 (.one 8 .done)))) (.one 2 (.one 5 (.take 6 (.one 8 .done))))))))) [.blk b2 (.cells [.slice none 0 0, .slice none 0 0, .slice none 0 0].toArray 26 (0, 0)), .blk b1 (.cells (pgL p os ol ot cs cl ct).toArray 26 (0, 0))] st ?_
  clear st; intro w st hS
  refine df0 hS underlying26 sizeOf23 ?_
  refine dld hS 1 isAgg23 ?_
  refine dfz hS 1 underlying26 sizeOf23 ?_
  refine dld hS 1 isAgg23 ?_
  refine vd_two rfl rfl ?_ ?_
  focus
   replace st := st.ownNil 63 3
   refine (e_appr (bytes := 32) (len' := p.shared.length) (ys := p.shared.flatMap dcL) st 0 rfl rfl rfl rfl rfl (DcRow.rd (S := (· < n0)) (RowC.kept hSh st.sm)) underlying23 Tryz.info63 rfl rfl rfl rfl rfl (dcs_len p.shared) (dcs_one p.shared) (by unfold maxLen; omega) (by omega) (by omega) (by simp) ?_)
   intro s1o s1c w st; dsimp only [setNth] at st
   refine vd_next st.dr ?_; intro hS
   refine vd_two rfl rfl ?_ ?_
   replace st := st.ownNil 63 3
   refine (e_appr (bytes := 32) (len' := p.locks.length) (ys := p.locks.flatMap dcL) st 0 rfl rfl rfl rfl rfl (DcRow.rd (S := (· < n0)) (RowC.kept hL st.sm)) underlying23 Tryz.info63 rfl rfl rfl rfl rfl (dcs_len p.locks) (dcs_one p.locks) (by unfold maxLen; omega) (by omega) (by omega) (by simp) ?_)
   intro s2o s2c w st; dsimp only [setNth] at st
   refine vd_next st.dr ?_; intro hS
   refine vd_take rfl rfl rfl hS (fun w st => ybd (.agg #[_, _, _]) [(0, _), (1, _)]) ?_
   refine vd_do rfl (e_al (l := [_, _, _]) st rfl rfl zeroValue26 rfl ?_)
   intro b3 w hb3 st
   refine vd_next st.dr ?_; intro hS
   rotate_left
   refine (e_al (l := [_, _, _]) st rfl rfl zeroValue26 rfl ?_)
   intro b3 w hb3 st
   refine vd_next st.dr ?_; intro hS
   replace st := st.ownNil 63 3
   replace st := st.ownNil 63 3
   refine vd_do rfl (e_appr (bytes := 32) (len' := p.locks.length) (ys := p.locks.flatMap dcL) st 0 rfl rfl rfl rfl rfl (DcRow.rd (S := (· < n0)) (RowC.kept hL st.sm)) underlying23 Tryz.info63 rfl rfl rfl rfl rfl (dcs_len p.locks) (dcs_one p.locks) (by unfold maxLen; omega) (by omega) (by omega) (by simp) ?_)
   intro s2o s2c w st; dsimp only [setNth] at st
   refine vd_next st.dr ?_; intro hS
   refine vd_take rfl rfl rfl hS (fun w st => ybd (.agg #[_, _, _]) [(0, _), (1, _)]) ?_
  rotate_left 2
  refine (e_al (l := [_, _, _]) st rfl rfl zeroValue26 rfl ?_)
  intro b3 w hb3 st
  refine vd_next st.dr ?_; intro hS
  replace st := st.ownNil 63 3
  replace st := st.ownNil 63 3
  refine vd_do rfl (e_appr (bytes := 32) (len' := p.shared.length) (ys := p.shared.flatMap dcL) st 0 rfl rfl rfl rfl rfl (DcRow.rd (S := (· < n0)) (RowC.kept hSh st.sm)) underlying23 Tryz.info63 rfl rfl rfl rfl rfl (dcs_len p.shared) (dcs_one p.shared) (by unfold maxLen; omega) (by omega) (by omega) (by simp) ?_)
  intro s1o s1c w st; dsimp only [setNth] at st
  refine vd_next st.dr ?_; intro hS
  replace st := st.ownNil 63 3
  replace st := st.ownNil 63 3
  refine vd_do rfl (e_appr (bytes := 32) (len' := p.locks.length) (ys := p.locks.flatMap dcL) st 0 rfl rfl rfl rfl rfl (DcRow.rd (S := (· < n0)) (RowC.kept hL st.sm)) underlying23 Tryz.info63 rfl rfl rfl rfl rfl (dcs_len p.locks) (dcs_one p.locks) (by unfold maxLen; omega) (by omega) (by omega) (by simp) ?_)
  intro s2o s2c w st; dsimp only [setNth] at st
  refine vd_next st.dr ?_; intro hS
  refine vd_take rfl rfl rfl hS (fun w st => ybd (.agg #[_, _, _]) [(0, _), (1, _)]) ?_
  all_goals
   first
   | refine vd_do rfl (ests st 0 [_, _, _] sizeOf26 ?_)
   | refine vd_do rfl (ests st 2 [_, _, _] sizeOf26 ?_)
   | refine vd_do rfl (ests st 4 [_, _, _] sizeOf26 ?_)
   intro w st; dsimp only [setNth, wr] at st
   refine vd_next st.dr ?_; intro hS
   refine vd_end ?_
   refine vq_meet (s1o, s1c, s2o, s2c, b3) ⟨rfl, rfl, rfl, trivial⟩ (by first | exact st.pick [0, 2, 1, 3, 4] rfl (by decide) | exact st.pick [2, 3, 0, 4, 5] rfl (by decide) | exact st.pick [4, 2, 0, 5, 6] rfl (by decide)) ?_
   ·assumption
 clear st
 rintro ⟨s1o, s1c, s2o, s2c, b3⟩ w hb3 st
 dsimp only at *
 refine vc_seq (sr ?_)
 replace st := St.pushR (r := .tree [] (fun w => ThSs 42 67 63 w [] [] [])) st (Chg.refl _ _) (holds_of (by simp [ThSs]) (by simp) (fun a b h hk => h.kept hk)) (by simp [Res.at?])
 replace st := st.ownNil 69 4
 refine yfz 2 underlying26 sizeOf24 ?_
 refine yl st 6 isAgg24 ?_
 refine vy (y_lensl rfl underlying24) ?_
 refine ym ?_
 refine et (vk5 2 3 14 15 16 (vc_block ?_))
 refine vc_loop (w0 := w0) (M := []) (fun (y : Nat × Option Addr × Nat × List Value × List Nat) => [(2, .pointer (some ⟨b2, 0, none⟩)), (3, .pointer (some ⟨b3, 0, none⟩)), (14, .slice ot p.threads.length ct), (15, .int .i64 (p.threads.length : Int)), (16, .int .i64 (y.1 : Int))]) (fun y => [.own (.slice y.2.1 y.1 y.2.2.1) 69 4 y.1 y.2.2.2.1, .tree y.2.2.2.2 (fun w => ThSs 42 67 63 w (p.threads.take y.1) y.2.2.2.1 y.2.2.2.2), .blk b3 (.cells [.slice s1o p.shared.length s1c, .slice s2o p.locks.length s2c, .slice y.2.1 y.1 y.2.2.1].toArray 26 (0, 0)), .own (.slice s1o p.shared.length s1c) 63 3 p.shared.length (p.shared.flatMap dcL), .own (.slice s2o p.locks.length s2c) 63 3 p.locks.length (p.locks.flatMap dcL), .blk b2 (.cells [.slice none 0 0, .slice none 0 0, .slice none 0 0].toArray 26 (0, 0))]) (fun y _ => y.1 ≤ p.threads.length ∧ Nw w0.heap.size y.2.2.2.2) (fun y => p.threads.length - y.1) (0, none, 0, [], []) ⟨rfl, rfl, rfl, rfl, rfl, trivial⟩ (by simpa using st.pick [0, 1, 2, 3, 4, 5] rfl (by decide)) ⟨by simp, Nw.nil⟩ ?_
 clear st
 rintro ⟨j, oj, cj, xs, S⟩ w ⟨hj, hSS⟩ st
 dsimp only at *
 refine sr ?_
 refine vy (y_lss rfl rfl) ?_
 refine et (vk6 2 3 14 15 16 17 (vc_seq ?_))
 refine vif ?_ ?_
 ·intro hc17
  try simp only [dn] at hc17
  have stK := st
  obtain ⟨t, htj⟩ : ∃ t, p.threads[j]? = some t := ⟨_, List.getElem?_eq_getElem (by omega)⟩
  obtain ⟨gb, go, rfl, hgS, hgl, hg⟩ := ThRow.at hT (by omega)
  obtain ⟨tl, tb, cll, cbb, htl, htb, hc⟩ := hg j t htj
  have hkt := hok.2.2.2 j t htj
  have st := stK
  clear stK
  refine kt (vk5 2 3 14 15 16 (vc_seq (vc_block (sr ?_))))
  refine vy (y_ia (k := j) rfl rfl underlying24 sizeOf69 rfl (by omega)) ?_
  refine vy (y_ldca (thL t tl tb cll cbb) rfl isAgg69 sizeOf69 rfl (fun i v hi => st.chg.cell (hc i v hi) (by simp))) ?_
  refine vc_e (e_al (l := [_, _, _, _]) st rfl rfl zeroValue69 rfl ?_)
  intro b5 w hb5 st
  refine vc_e (ests st 0 [_, _, _, _] sizeOf69 ?_)
  intro w st; dsimp only [setNth, wr] at st
  refine et (vk6 2 3 5 14 15 16 (sr ?_))
  refine yfz 1 underlying69 sizeOf23 ?_
  refine yl st 0 isAgg23 ?_
  replace st := st.ownNil 63 3
  have hn5 := hkt.1.1
  refine vc_e (e_appr (bytes := 32) (len' := t.locals.length) (ys := t.locals.flatMap dcL) st 0 rfl rfl rfl rfl rfl (DcRow.rd (S := (· < n0)) (RowC.kept htl st.sm)) underlying23 Tryz.info63 rfl rfl rfl rfl rfl (dcs_len t.locals) (dcs_one t.locals) (by unfold maxLen; omega) (by omega) (by omega) (by simp) ?_)
  intro s3o s3c w st; dsimp only [setNth] at st
  refine yfz 1 underlying69 sizeOf23 ?_
  refine vc_e (est st 1 sizeOf23 ?_)
  intro w st; dsimp only [setNth, wr] at st
  refine et (vk6 2 3 5 14 15 16 (sr ?_))
  refine yfz 2 underlying69 sizeOf65 ?_
  refine yl st 1 isAgg65 ?_
  refine vc_e (e_call [_] rfl rfl call158 rfl (pcopyS_any _ t.body rfl hkt.2.1 _ _ _ (htb.kept st.sm) (Nat.le_trans hn0 st.chg.size)) ?_)
  rintro _ w ⟨s4o, s4c, S4, rfl, hQ, hN, cw⟩
  have hN4 := hN.le st.chg.size
  replace st := St.pushR (r := .tree S4 (fun w => SmRQ w s4o s4c t.body S4)) st cw (holds_of hQ hQ.lt (fun a b h hk => h.kept hk)) hN.2
  refine yfz 2 underlying69 sizeOf65 ?_
  refine vc_e (est st 2 sizeOf65 ?_)
  intro w st; dsimp only [setNth, wr] at st
  refine et (vk6 2 3 5 14 15 16 (vc_region ?_))
  refine yfz 2 underlying26 sizeOf24 ?_
  refine yl st 5 isAgg24 ?_
  refine yla st 2 [_, _, _, _] isAgg69 sizeOf69 ?_
  refine vc_e (e_bs1 (l := [_, _, _, _]) st rfl rfl rfl rfl underlying24 sizeOf69 rfl rfl rfl zeroValue69 ?_)
  intro b31 w hb31 st
  refine vc_e (e_app (bytes := 72) st 4 0 rfl rfl rfl rfl rfl rfl underlying24 Tryz.info69 rfl rfl rfl rfl rfl (by simp) rfl rfl (by unfold maxLen; omega) (by omega) ?_)
  intro oaQ capQ w st; dsimp only [setNth] at st
  refine yfz 2 underlying26 sizeOf24 ?_
  refine vc_e (est st 6 sizeOf24 ?_)
  intro w st; dsimp only [setNth, wr] at st
  refine vc_end (vq_block (vq_then (vk5 2 3 14 15 16 (vc_region ?_))))
  obtain ⟨h3, hN3⟩ := st.ownNw (i := 2) rfl
  have d34 := st.ne (i := 2) (j := 1) (by decide) rfl rfl
  simp only [Res.at?, obk_own] at d34
  have dS3 := st.ne (i := 5) (j := 2) (by decide) rfl rfl
  simp only [Res.at?, obk_own] at dS3
  have dS4 := st.ne (i := 5) (j := 1) (by decide) rfl rfl
  have hNq := hN3.app hN4 d34
  have hne : ∀ b ∈ S, b ∉ obk s3o ++ S4 := fun b hb hb' => (List.mem_append.1 hb').elim (dS3 b hb) (dS4 b hb)
  have h0 := (st.res (i := 5) rfl).1
  have h4 := (st.res (i := 1) rfl).1
  have h5 : ThSs 42 67 63 w (p.threads.take (j + 1)) (xs ++ thL t s3o s4o s3c s4c) (S ++ (obk s3o ++ S4)) := by rw [take_snoc htj]; exact ThSs.snoc h0 ⟨s3o, s3c, s4o, s4c, obk s3o, S4, rfl, ⟨h3, rfl⟩, h4, rfl⟩
  have stN := (((st.pick [5, 2, 1, 4, 6, 7, 8, 9] rfl (by decide)).joinN 3 (q := .tree (S ++ (obk s3o ++ S4)) fun w => ThSs 42 67 63 w (p.threads.take (j + 1)) (xs ++ thL t s3o s4o s3c s4c) (S ++ (obk s3o ++ S4))) (fun k hk => by
    simp only [Res.at?, List.mem_append] at hk
    rcases hk with h | h | h
    · exact ⟨_, .head _, h⟩
    · exact ⟨_, .tail _ (.head _), by simpa [Res.at?, obk_own] using h⟩
    · exact ⟨_, .tail _ (.tail _ (.head _)), h⟩) (holds_of h5 h5.lt (fun a b h hk => h.kept hk)))).pick [1, 0, 2, 3, 4, 5] rfl (by decide)
  refine vy (y_add rfl rfl (by omega : _ = ((j + 1 : Nat) : Int)) (by omega) (by omega)) ?_
  refine ym ?_
  refine vc_end ?_
  refine vq_again (j + 1, oaQ, capQ, xs ++ thL t s3o s4o s3c s4c, S ++ (obk s3o ++ S4))  ⟨rfl, rfl, rfl, rfl, rfl, trivial⟩ stN ?_ ?_
  ·exact ⟨by dsimp only; omega, hSS.app hNq hne⟩
  dsimp only; omega
 intro hc17
 try simp only [dn] at hc17
 obtain rfl : j = p.threads.length := by omega
 rw [List.take_length] at st
 refine vc_exit (vq_then_exit (vq_then_exit (vq_block_exit (vq_then (vk2 2 3 (sr ?_))))))
 refine yla st 2 [_, _, _] isAgg26 sizeOf26 ?_
 refine vc_e (ests st 5 [_, _, _] sizeOf26 ?_)
 intro w st; dsimp only [setNth, wr] at st
 refine et (vk1 2 (vc_ret ?_))
 refine vq_ret1 st (.inl rfl) results117 (by exact .cell 5 rfl rfl isAgg26 sizeOf26) ?_
 refine ⟨_, rfl, ?_⟩
 obtain ⟨h1, h2⟩ := st.ownNw (i := 0) rfl
 have h3 := (st.res (i := 1) rfl).1
 obtain ⟨h4, hN1⟩ := st.ownNw (i := 3) rfl
 obtain ⟨h5, hN2⟩ := st.ownNw (i := 4) rfl
 have e0 := st.ne (i := 0) (j := 1) (by decide) rfl rfl
 have e1 := st.ne (i := 3) (j := 4) (by decide) rfl rfl
 have e2 := st.ne (i := 3) (j := 0) (by decide) rfl rfl
 have e3 := st.ne (i := 3) (j := 1) (by decide) rfl rfl
 have e4 := st.ne (i := 4) (j := 0) (by decide) rfl rfl
 have e5 := st.ne (i := 4) (j := 1) (by decide) rfl rfl
 simp only [Res.at?, obk_own] at e0 e1 e2 e3 e4 e5
 exact ⟨_, obk s1o ++ (obk s2o ++ (obk oj ++ S)), rfl, ⟨s1o, s1c, s2o, s2c, oj, cj, obk s1o, obk s2o, obk oj ++ S, rfl, ⟨h4, rfl⟩, ⟨h5, rfl⟩, ⟨xs, S, h1, rfl, h3⟩, rfl⟩,
   hN1.app (hN2.app (h2.app hSS e0) (fun b hb hb' => (List.mem_append.1 hb').elim (e4 b hb) (e5 b hb))) (fun b hb hb' => (List.mem_append.1 hb').elim (e1 b hb) fun h => (List.mem_append.1 h).elim (e2 b hb) (e3 b hb)), st.chg⟩
end
end Go.Proofs.YtnmhlpnapgojjaaGreatDoor

