/- A part of the proof: contracts of functions and plain laws; each theorem says its own conditions. -/
import Derived.Test.YtggnfanphcaamaaDoorK13
import Derived.Test.YtggnfanphcaamaaDoorK1
import Derived.Test.YtggnfanphcaamaaDoorK0
import Derived.Test.YtggnfanphcaamaaDoorK12
namespace Go.Proofs.YtggnfanphcaamaaDoor
open Go.RowKit Sx LexS ParS
set_option linter.unusedVariables false
set_option linter.unusedSimpArgs false
section
variable {S : Nat → Prop}

theorem parts_any : ∀ (n : Nat) (a : List Ex), szo a = n → OkEs a → szEs a ≤ 1048576 → ∀ (oa : Option Addr) (ca : Nat) (w : World), ExRow w S oa a →
    Ret Tryd.prog 80 [.slice oa a.length ca] w fun v w' => v = .int .i64 (nEs a : Int) ∧ Chg [] w w' := by
 intro n
 refine Nat.strongRecOn n fun n ih => ?_
 intro a hn hok hsz oa ca w hA
 subst hn
 have hn := hok.1
 refine ret_of [_] Tryd.func80 rfl Tryd.ntmps80 rfl ?_
 have st := St.init w []
 obtain ⟨w0, rfl⟩ : ∃ w0, w0 = w := ⟨_, rfl⟩
 refine vc_seq (vc_region ?_)
 refine vc_y rfl rfl (y_as rfl) ?_
 refine vc_end (vq_then (vc_keep [(0, _)] ⟨rfl, trivial⟩ (vc_seq (vc_region ?_))))
 refine vc_y rfl rfl (y_as rfl) ?_
 refine vc_end (vq_then (vc_keep [(0, _), (3, _)] ⟨rfl, rfl, trivial⟩ (vc_seq (vc_seq (vc_region ?_)))))
 refine vc_y rfl rfl (y_mv rfl) ?_
 refine vc_y rfl rfl (y_lensl rfl Tryd.underlying24) ?_
 refine vc_y rfl rfl (y_mv rfl) ?_
 refine vc_end (vq_then (vc_keep [(3, _), (6, _), (7, _), (8, _)] ⟨rfl, rfl, rfl, rfl, trivial⟩ (vc_block ?_)))
 refine vc_loop (w0 := w0) (M := []) (fun (j : Nat) => [(3, .int .i64 (sm nE (a.take j) : Int)), (6, .slice oa a.length ca), (7, .int .i64 (a.length : Int)), (8, .int .i64 (j : Int))]) (fun _ => []) (fun j _ => j ≤ a.length) (fun j => a.length - j) 0 ⟨rfl, rfl, rfl, rfl, trivial⟩ (st.drop (by repeat (first | exact sl0 | apply sl1 | apply sl2))) (by omega) ?_
 clear st
 rintro j w hj st
 refine vc_seq (vc_region ?_)
 refine vc_y rfl rfl (y_lss rfl rfl) ?_
 refine vc_end (vq_then (vc_keep [(3, _), (6, _), (7, _), (8, _), (9, _)] ⟨rfl, rfl, rfl, rfl, rfl, trivial⟩ (vc_seq ?_)))
 refine vc_ifs rfl ?_ ?_
 ·
  intro hc9
  try simp only [dn] at hc9
  obtain ⟨x, hx⟩ : ∃ x, a[j]? = some x := ⟨_, List.getElem?_eq_getElem (by omega)⟩
  have hz := mem_size hx
  have hkx := hok.2 j x hx
  obtain ⟨gb, go, rfl, hg⟩ := ExRow.gets hA (by omega)
  obtain ⟨o0, c0, hc, hr0⟩ := hg j x hx
  have hz2 : szo x.kids < szo a := by have := szo_kids x; omega
  have m1 := sum_mem szE hx
  rw [← szEs_eq, szE_kids] at m1
  have t1 := sumT (f := nE) hx
  have t2 := smT_le nE a (j + 1)
  rw [← nEs_eq a] at t2
  have t3 := nEs_le a
  have t4 := nE_kids x
  refine vc_code_skip (vq_then (vc_keep [(3, _), (6, _), (7, _), (8, _)] ⟨rfl, rfl, rfl, rfl, trivial⟩ (vc_seq (vc_block (vc_seq (vc_region ?_))))))
  refine vc_y rfl rfl ((by exact y_ia (k := j) rfl rfl Tryd.underlying24 Tryd.sizeOf26 rfl (by omega))) ?_
  refine vc_y rfl rfl ((by exact y_ldca (exC x o0 c0) rfl Tryd.isAgg26 Tryd.sizeOf26 rfl (fun i v hi => st.chg.cell (hc i v hi) (by simp)))) ?_
  refine vc_e (e_al (l := [_, _, _, _, _, _]) st rfl rfl Tryd.zeroValue26 rfl ?_)
  intro b5 w hb5 st
  refine vc_e (e_sts (vs := [_, _, _, _, _, _]) st 0 rfl rfl rfl rfl rfl Tryd.sizeOf26 rfl rfl (by first | (right; assumption) | (left; simp)) ?_)
  intro w st; dsimp only [setNth, wr] at st
  refine vc_end (vq_then (vc_keep [(3, _), (5, _), (6, _), (7, _), (8, _)] ⟨rfl, rfl, rfl, rfl, rfl, trivial⟩ (vc_region ?_)))
  refine vc_y rfl rfl (y_mv rfl) ?_
  refine vc_y rfl rfl ((by exact y_faz (k := 4) rfl Tryd.underlying26 rfl rfl Tryd.sizeOf24 rfl)) ?_
  refine vc_y rfl rfl ((by exact y_ld st 0 rfl Tryd.isAgg24 rfl rfl)) ?_
  refine vc_e (e_call [_] rfl rfl Tryd.call80 rfl (ih _ hz2 x.kids rfl hkx.kids (by omega) _ _ _ (hr0.kept (Same.of_nil st.chg))) ?_)
  rintro _ w ⟨rfl, cw⟩
  replace st := st.call0 cw
  refine vc_y rfl rfl (y_add rfl rfl (by omega : _ = ((nE x : Nat) : Int)) (by omega) (by omega)) ?_
  refine vc_y rfl rfl (y_add rfl rfl (by omega : _ = ((sm nE (a.take (j + 1)) : Nat) : Int)) (by omega) (by omega)) ?_
  refine vc_y rfl rfl (y_as rfl) ?_
  refine vc_end (vq_block (vq_then (vc_keep [(3, _), (6, _), (7, _), (8, _)] ⟨rfl, rfl, rfl, rfl, trivial⟩ (vc_region ?_))))
  refine vc_y rfl rfl (y_add rfl rfl (by omega : _ = ((j + 1 : Nat) : Int)) (by omega) (by omega)) ?_
  refine vc_y rfl rfl (y_mv rfl) ?_
  refine vc_end ?_
  refine vq_again (j + 1)  ⟨rfl, rfl, rfl, rfl, trivial⟩ (st.drop (by repeat (first | exact sl0 | apply sl1 | apply sl2))) ?_ ?_
  ·
   (show j + 1 ≤ a.length; omega)
  ·
   omega
 ·
  intro hc9
  try simp only [dn] at hc9
  refine vc_exit (vq_then_exit (vq_then_exit (vq_block_exit (vq_then (vc_keep [(3, _)] ⟨rfl, trivial⟩ (vc_seq (vc_region ?_)))))))
  refine vc_y rfl rfl (y_mv rfl) ?_
  refine vc_y rfl rfl (y_as rfl) ?_
  refine vc_end (vq_then (vc_keep [(2, _)] ⟨rfl, trivial⟩ (vc_ret ?_)))
  refine vq_ret1 st (.inl rfl) Tryd.results80 (.tmp rfl) ?_
  refine ⟨_, rfl, ?_⟩
  refine ⟨?_, st.chg⟩
  rw [List.take_of_length_le (by omega)]
  rw [nEs_eq]

set_option maxHeartbeats 1000000 in
theorem sizes_any : ∀ (n : Nat) (a : List Sm), szo a = n → OkSs a → szSs a ≤ 1048576 → ∀ (oa : Option Addr) (ca : Nat) (w : World), SmRow w S oa a →
    Ret Tryd.prog 50 [.slice oa a.length ca] w fun v w' => v = .tuple #[.int .i64 (stSs a : Int), .int .i64 (exSs a : Int)] ∧ Chg [] w w' := by
 intro n
 refine Nat.strongRecOn n fun n ih => ?_
 intro a hn hok hsz oa ca w hA
 subst hn
 have hn := hok.1
 refine ret_of [_] Tryd.func50 rfl Tryd.ntmps50 rfl ?_
 have st := St.init w []
 obtain ⟨w0, rfl⟩ : ∃ w0, w0 = w := ⟨_, rfl⟩
 refine vc_seq (vc_region ?_)
 iterate 2 refine vc_y rfl rfl (y_as rfl) ?_
 refine vc_end (vq_then (vc_keep [(0, _)] ⟨rfl, trivial⟩ (vc_seq (vc_region ?_))))
 iterate 2 refine vc_y rfl rfl (y_as rfl) ?_
 refine vc_end (vq_then (vc_keep [(0, _), (4, _), (5, _)] ⟨rfl, rfl, rfl, trivial⟩ (vc_seq (vc_seq (vc_region ?_)))))
 refine vc_y rfl rfl (y_mv rfl) ?_
 refine vc_y rfl rfl (y_lensl rfl Tryd.underlying76) ?_
 refine vc_y rfl rfl (y_mv rfl) ?_
 refine vc_end (vq_then (vc_keep [(4, _), (5, _), (12, _), (13, _), (14, _)] ⟨rfl, rfl, rfl, rfl, rfl, trivial⟩ (vc_block ?_)))
 refine vc_loop (w0 := w0) (M := []) (fun (j : Nat) => [(4, .int .i64 (sm stS (a.take j) : Int)), (5, .int .i64 (sm exS (a.take j) : Int)), (12, .slice oa a.length ca), (13, .int .i64 (a.length : Int)), (14, .int .i64 (j : Int))]) (fun _ => []) (fun j _ => j ≤ a.length) (fun j => a.length - j) 0 ⟨rfl, rfl, rfl, rfl, rfl, trivial⟩ (st.drop (by repeat (first | exact sl0 | apply sl1 | apply sl2))) (by omega) ?_
 clear st
 rintro j w hj st
 refine vc_seq (vc_region ?_)
 refine vc_y rfl rfl (y_lss rfl rfl) ?_
 refine vc_end (vq_then (vc_keep [(4, _), (5, _), (12, _), (13, _), (14, _), (15, _)] ⟨rfl, rfl, rfl, rfl, rfl, rfl, trivial⟩ (vc_seq ?_)))
 refine vc_ifs rfl ?_ ?_
 ·
  intro hc15
  try simp only [dn] at hc15
  obtain ⟨x, hx⟩ : ∃ x, a[j]? = some x := ⟨_, List.getElem?_eq_getElem (by omega)⟩
  have hz := mem_size hx
  have hkx := hok.2 j x hx
  obtain ⟨gb, go, rfl, hg⟩ := SmRow.gets hA (by omega)
  obtain ⟨oe, obb, ol, ce, cbb, cl, hc, hse, hsb, hsl⟩ := hg j x hx
  have hB2 : szo x.body < szo a := by
   have : szo x.body < szo x := by cases x; exact sm_size.1
   omega
  have hL2 : szo x.els < szo a := by
   have : szo x.els < szo x := by cases x; exact sm_size.2
   omega
  have m1 := sum_mem szS hx
  rw [← szSs_eq, szS_kids] at m1
  have t1 := sumT (f := stS) hx
  have t2 := smT_le stS a (j + 1)
  rw [← stSs_eq a] at t2
  have t3 := stSs_le a
  have t4 := stS_kids x
  have u1 := sumT (f := exS) hx
  have u2 := smT_le exS a (j + 1)
  rw [← exSs_eq a] at u2
  have u3 := exSs_le a
  have u4 := exS_kids x
  refine vc_code_skip (vq_then (vc_keep [(4, _), (5, _), (12, _), (13, _), (14, _)] ⟨rfl, rfl, rfl, rfl, rfl, trivial⟩ (vc_seq (vc_block (vc_seq (vc_region ?_))))))
  refine vc_y rfl rfl ((by exact y_ia (k := j) rfl rfl Tryd.underlying76 Tryd.sizeOf83 rfl (by omega))) ?_
  refine vc_y rfl rfl ((by exact y_ldca (smC x oe obb ol ce cbb cl) rfl Tryd.isAgg83 Tryd.sizeOf83 rfl (fun i v hi => st.chg.cell (hc i v hi) (by simp)))) ?_
  refine vc_e (e_al (l := [_, _, _, _, _, _, _]) st rfl rfl Tryd.zeroValue83 rfl ?_)
  intro b7 w hb7 st
  refine vc_e (e_sts (vs := [_, _, _, _, _, _, _]) st 0 rfl rfl rfl rfl rfl Tryd.sizeOf83 rfl rfl (by first | (right; assumption) | (left; simp)) ?_)
  intro w st; dsimp only [setNth, wr] at st
  refine vc_end (vq_then (vc_keep [(4, _), (5, _), (7, _), (12, _), (13, _), (14, _)] ⟨rfl, rfl, rfl, rfl, rfl, rfl, trivial⟩ (vc_seq (vc_region ?_))))
  refine vc_y rfl rfl ((by exact y_faz (k := 4) rfl Tryd.underlying83 rfl rfl Tryd.sizeOf76 rfl)) ?_
  refine vc_y rfl rfl ((by exact y_ld st 0 rfl Tryd.isAgg76 rfl rfl)) ?_
  refine vc_e (e_call [_] rfl rfl Tryd.call50 rfl (ih _ hB2 x.body rfl hkx.body (by omega) _ _ _ (hsb.kept (Same.of_nil st.chg))) ?_)
  rintro _ w ⟨rfl, cw⟩
  replace st := st.call0 cw
  refine vc_y rfl rfl (y_mv rfl) ?_
  iterate 2 refine vc_y rfl rfl (y_ext rfl rfl) ?_
  iterate 2 refine vc_y rfl rfl (y_as rfl) ?_
  refine vc_end (vq_then (vc_keep [(4, _), (5, _), (7, _), (8, _), (9, _), (12, _), (13, _), (14, _)] ⟨rfl, rfl, rfl, rfl, rfl, rfl, rfl, rfl, trivial⟩ (vc_seq (vc_region ?_))))
  refine vc_y rfl rfl ((by exact y_faz (k := 5) rfl Tryd.underlying83 rfl rfl Tryd.sizeOf76 rfl)) ?_
  refine vc_y rfl rfl ((by exact y_ld st 0 rfl Tryd.isAgg76 rfl rfl)) ?_
  refine vc_e (e_call [_] rfl rfl Tryd.call50 rfl (ih _ hL2 x.els rfl hkx.els (by omega) _ _ _ (hsl.kept (Same.of_nil st.chg))) ?_)
  rintro _ w ⟨rfl, cw⟩
  replace st := st.call0 cw
  refine vc_y rfl rfl (y_mv rfl) ?_
  iterate 2 refine vc_y rfl rfl (y_ext rfl rfl) ?_
  iterate 2 refine vc_y rfl rfl (y_as rfl) ?_
  refine vc_end (vq_then (vc_keep [(4, _), (5, _), (7, _), (8, _), (9, _), (10, _), (11, _), (12, _), (13, _), (14, _)] ⟨rfl, rfl, rfl, rfl, rfl, rfl, rfl, rfl, rfl, rfl, trivial⟩ (vc_seq (vc_region ?_))))
  iterate 2 refine vc_y rfl rfl (y_mv rfl) ?_
  refine vc_y rfl rfl (y_add rfl rfl (by omega : _ = ((1 + stSs x.body : Nat) : Int)) (by omega) (by omega)) ?_
  refine vc_y rfl rfl (y_mv rfl) ?_
  refine vc_y rfl rfl (y_add rfl rfl (by omega : _ = ((stS x : Nat) : Int)) (by omega) (by omega)) ?_
  refine vc_y rfl rfl (y_add rfl rfl (by omega : _ = ((sm stS (a.take (j + 1)) : Nat) : Int)) (by omega) (by omega)) ?_
  refine vc_y rfl rfl (y_as rfl) ?_
  refine vc_end (vq_then (vc_keep [(4, _), (5, _), (7, _), (9, _), (11, _), (12, _), (13, _), (14, _)] ⟨rfl, rfl, rfl, rfl, rfl, rfl, rfl, rfl, trivial⟩ (vc_region ?_)))
  refine vc_y rfl rfl (y_mv rfl) ?_
  refine vc_y rfl rfl ((by exact y_faz (k := 3) rfl Tryd.underlying83 rfl rfl Tryd.sizeOf24 rfl)) ?_
  refine vc_y rfl rfl ((by exact y_ld st 0 rfl Tryd.isAgg24 rfl rfl)) ?_
  refine vc_e (e_call [_] rfl rfl Tryd.call80 rfl (parts_any _ x.e rfl hkx.e (by omega) _ _ _ (hse.kept (Same.of_nil st.chg))) ?_)
  rintro _ w ⟨rfl, cw⟩
  replace st := st.call0 cw
  refine vc_y rfl rfl (y_mv rfl) ?_
  refine vc_y rfl rfl (y_add rfl rfl (by omega : _ = ((nEs x.e + exSs x.body : Nat) : Int)) (by omega) (by omega)) ?_
  refine vc_y rfl rfl (y_mv rfl) ?_
  refine vc_y rfl rfl (y_add rfl rfl (by omega : _ = ((exS x : Nat) : Int)) (by omega) (by omega)) ?_
  refine vc_y rfl rfl (y_add rfl rfl (by omega : _ = ((sm exS (a.take (j + 1)) : Nat) : Int)) (by omega) (by omega)) ?_
  refine vc_y rfl rfl (y_as rfl) ?_
  refine vc_end (vq_block (vq_then (vc_keep [(4, _), (5, _), (12, _), (13, _), (14, _)] ⟨rfl, rfl, rfl, rfl, rfl, trivial⟩ (vc_region ?_))))
  refine vc_y rfl rfl (y_add rfl rfl (by omega : _ = ((j + 1 : Nat) : Int)) (by omega) (by omega)) ?_
  refine vc_y rfl rfl (y_mv rfl) ?_
  refine vc_end ?_
  refine vq_again (j + 1)  ⟨rfl, rfl, rfl, rfl, rfl, trivial⟩ (st.drop (by repeat (first | exact sl0 | apply sl1 | apply sl2))) ?_ ?_
  ·
   (show j + 1 ≤ a.length; omega)
  ·
   omega
 ·
  intro hc15
  try simp only [dn] at hc15
  refine vc_exit (vq_then_exit (vq_then_exit (vq_block_exit (vq_then (vc_keep [(4, _), (5, _)] ⟨rfl, rfl, trivial⟩ (vc_seq (vc_region ?_)))))))
  iterate 2 refine vc_y rfl rfl (y_mv rfl) ?_
  iterate 2 refine vc_y rfl rfl (y_as rfl) ?_
  refine vc_end (vq_then (vc_keep [(2, _), (3, _)] ⟨rfl, rfl, trivial⟩ (vc_ret ?_)))
  refine vq_ret2 st (.inl rfl) Tryd.results50 (.tmp rfl) (.tmp rfl) ?_
  refine ⟨_, rfl, ?_⟩
  refine ⟨?_, st.chg⟩
  rw [List.take_of_length_le (by omega), stSs_eq, exSs_eq]

theorem rsize_any (p : Pg) (hok : OkP p) (hsz : szTs p.threads ≤ 1048576) (os ol ot : Option Addr) (cs cl ct : Nat) (w : World) (hA : ThRow w S ot p.threads) :
    Ret Tryd.prog 22 [.agg (pgC p os ol ot cs cl ct).toArray] w fun v w' => v = .tuple #[.int .i64 (stP p : Int), .int .i64 (exP p : Int)] ∧ Chg [] w w' := by
 refine ret_of [_] Tryd.func22 rfl Tryd.ntmps22 rfl ?_
 have st := St.init w []
 obtain ⟨w0, rfl⟩ : ∃ w0, w0 = w := ⟨_, rfl⟩
 have hn3 := hok.2.2.1
 refine vc_seq (vc_region ?_)
 refine vc_e (e_bx (l := [_, _, _]) st rfl rfl rfl rfl ?_)
 intro b1 w hb1 st
 iterate 2 refine vc_y rfl rfl (y_as rfl) ?_
 refine vc_end (vq_then (vc_keep [(1, _)] ⟨rfl, trivial⟩ (vc_seq (vc_region ?_))))
 iterate 2 refine vc_y rfl rfl (y_as rfl) ?_
 refine vc_end (vq_then (vc_keep [(1, _), (4, _), (5, _)] ⟨rfl, rfl, rfl, trivial⟩ (vc_seq (vc_seq (vc_region ?_)))))
 refine vc_y rfl rfl ((by exact y_faz (k := 2) rfl Tryd.underlying44 rfl rfl Tryd.sizeOf42 rfl)) ?_
 refine vc_y rfl rfl ((by exact y_ld st 0 rfl Tryd.isAgg42 rfl rfl)) ?_
 refine vc_y rfl rfl (y_lensl rfl Tryd.underlying42) ?_
 refine vc_y rfl rfl (y_mv rfl) ?_
 refine vc_end (vq_then (vc_keep [(4, _), (5, _), (11, _), (12, _), (13, _)] ⟨rfl, rfl, rfl, rfl, rfl, trivial⟩ (vc_block ?_)))
 refine vc_loop (w0 := w0) (M := []) (fun (j : Nat) => [(4, .int .i64 (sm (fun t : Th => stSs t.body) (p.threads.take j) : Int)), (5, .int .i64 (sm (fun t : Th => exSs t.body) (p.threads.take j) : Int)), (11, .slice ot p.threads.length ct), (12, .int .i64 (p.threads.length : Int)), (13, .int .i64 (j : Int))]) (fun _ => []) (fun j _ => j ≤ p.threads.length) (fun j => p.threads.length - j) 0 ⟨rfl, rfl, rfl, rfl, rfl, trivial⟩ (st.drop (by repeat (first | exact sl0 | apply sl1 | apply sl2))) (by omega) ?_
 clear st
 rintro j w hj st
 refine vc_seq (vc_region ?_)
 refine vc_y rfl rfl (y_lss rfl rfl) ?_
 refine vc_end (vq_then (vc_keep [(4, _), (5, _), (11, _), (12, _), (13, _), (14, _)] ⟨rfl, rfl, rfl, rfl, rfl, rfl, trivial⟩ (vc_seq ?_)))
 refine vc_ifs rfl ?_ ?_
 ·
  intro hc14
  try simp only [dn] at hc14
  obtain ⟨x, hx⟩ : ∃ x, p.threads[j]? = some x := ⟨_, List.getElem?_eq_getElem (by omega)⟩
  have hkx := hok.2.2.2 j x hx
  obtain ⟨gb, go, rfl, hg⟩ := ThRow.gets hA (by omega)
  obtain ⟨tl, tb, cll, cbb, hc, htl, htb⟩ := hg j x hx
  have m1 := szTs_mem hx
  have t1 := sumT (f := fun t : Th => stSs t.body) hx
  have t2 := smT_le (fun t : Th => stSs t.body) p.threads (j + 1)
  have t3 := stP_le p.threads
  have u1 := sumT (f := fun t : Th => exSs t.body) hx
  have u2 := smT_le (fun t : Th => exSs t.body) p.threads (j + 1)
  have u3 := exP_le p.threads
  refine vc_code_skip (vq_then (vc_keep [(4, _), (5, _), (11, _), (12, _), (13, _)] ⟨rfl, rfl, rfl, rfl, rfl, trivial⟩ (vc_seq (vc_block (vc_seq (vc_region ?_))))))
  refine vc_y rfl rfl ((by exact y_ia (k := j) rfl rfl Tryd.underlying42 Tryd.sizeOf78 rfl (by omega))) ?_
  refine vc_y rfl rfl ((by exact y_ldca (thC x tl tb cll cbb) rfl Tryd.isAgg78 Tryd.sizeOf78 rfl (fun i v hi => st.chg.cell (hc i v hi) (by simp)))) ?_
  refine vc_e (e_al (l := [_, _, _, _]) st rfl rfl Tryd.zeroValue78 rfl ?_)
  intro b7 w hb7 st
  refine vc_e (e_sts (vs := [_, _, _, _]) st 0 rfl rfl rfl rfl rfl Tryd.sizeOf78 rfl rfl (by first | (right; assumption) | (left; simp)) ?_)
  intro w st; dsimp only [setNth, wr] at st
  refine vc_end (vq_then (vc_keep [(4, _), (5, _), (7, _), (11, _), (12, _), (13, _)] ⟨rfl, rfl, rfl, rfl, rfl, rfl, trivial⟩ (vc_seq (vc_region ?_))))
  refine vc_y rfl rfl ((by exact y_faz (k := 2) rfl Tryd.underlying78 rfl rfl Tryd.sizeOf76 rfl)) ?_
  refine vc_y rfl rfl ((by exact y_ld st 0 rfl Tryd.isAgg76 rfl rfl)) ?_
  refine vc_e (e_call [_] rfl rfl Tryd.call50 rfl (sizes_any _ x.body rfl hkx.2.1 (by omega) _ _ _ (htb.kept (Same.of_nil st.chg))) ?_)
  rintro _ w ⟨rfl, cw⟩
  replace st := st.call0 cw
  refine vc_y rfl rfl (y_mv rfl) ?_
  iterate 2 refine vc_y rfl rfl (y_ext rfl rfl) ?_
  iterate 2 refine vc_y rfl rfl (y_as rfl) ?_
  refine vc_end (vq_then (vc_keep [(4, _), (5, _), (8, _), (9, _), (11, _), (12, _), (13, _)] ⟨rfl, rfl, rfl, rfl, rfl, rfl, rfl, trivial⟩ (vc_seq (vc_region ?_))))
  iterate 2 refine vc_y rfl rfl (y_mv rfl) ?_
  refine vc_y rfl rfl (y_add rfl rfl (by omega : _ = ((sm (fun t : Th => stSs t.body) (p.threads.take (j + 1)) : Nat) : Int)) (by omega) (by omega)) ?_
  refine vc_y rfl rfl (y_as rfl) ?_
  refine vc_end (vq_then (vc_keep [(4, _), (5, _), (9, _), (11, _), (12, _), (13, _)] ⟨rfl, rfl, rfl, rfl, rfl, rfl, trivial⟩ (vc_region ?_)))
  iterate 2 refine vc_y rfl rfl (y_mv rfl) ?_
  refine vc_y rfl rfl (y_add rfl rfl (by omega : _ = ((sm (fun t : Th => exSs t.body) (p.threads.take (j + 1)) : Nat) : Int)) (by omega) (by omega)) ?_
  refine vc_y rfl rfl (y_as rfl) ?_
  refine vc_end (vq_block (vq_then (vc_keep [(4, _), (5, _), (11, _), (12, _), (13, _)] ⟨rfl, rfl, rfl, rfl, rfl, trivial⟩ (vc_region ?_))))
  refine vc_y rfl rfl (y_add rfl rfl (by omega : _ = ((j + 1 : Nat) : Int)) (by omega) (by omega)) ?_
  refine vc_y rfl rfl (y_mv rfl) ?_
  refine vc_end ?_
  refine vq_again (j + 1)  ⟨rfl, rfl, rfl, rfl, rfl, trivial⟩ (st.drop (by repeat (first | exact sl0 | apply sl1 | apply sl2))) ?_ ?_
  ·
   (show j + 1 ≤ p.threads.length; omega)
  ·
   omega
 ·
  intro hc14
  try simp only [dn] at hc14
  refine vc_exit (vq_then_exit (vq_then_exit (vq_block_exit (vq_then (vc_keep [(4, _), (5, _)] ⟨rfl, rfl, trivial⟩ (vc_seq (vc_region ?_)))))))
  iterate 2 refine vc_y rfl rfl (y_mv rfl) ?_
  iterate 2 refine vc_y rfl rfl (y_as rfl) ?_
  refine vc_end (vq_then (vc_keep [(2, _), (3, _)] ⟨rfl, rfl, trivial⟩ (vc_ret ?_)))
  refine vq_ret2 st (.inl rfl) Tryd.results22 (.tmp rfl) (.tmp rfl) ?_
  refine ⟨_, rfl, ?_⟩
  refine ⟨?_, st.chg⟩
  rw [List.take_of_length_le (by omega)]
  rfl

set_option maxHeartbeats 1000000 in
theorem rdeep_any : ∀ (n : Nat) (a : List Sm), szo a = n → OkSs a → szSs a ≤ 1048576 → ∀ (oa : Option Addr) (ca : Nat) (w : World), SmRow w S oa a →
    Ret Tryd.prog 56 [.slice oa a.length ca] w fun v w' => v = .int .i64 (dpL a : Int) ∧ Chg [] w w' := by
 intro n
 refine Nat.strongRecOn n fun n ih => ?_
 intro a hn hok hsz oa ca w hA
 subst hn
 have hn := hok.1
 refine ret_of [_] Tryd.func56 rfl Tryd.ntmps56 rfl ?_
 have st := St.init w []
 obtain ⟨w0, rfl⟩ : ∃ w0, w0 = w := ⟨_, rfl⟩
 refine vc_seq (vc_region ?_)
 refine vc_y rfl rfl (y_as rfl) ?_
 refine vc_end (vq_then (vc_keep [(0, _)] ⟨rfl, trivial⟩ (vc_seq (vc_region ?_))))
 refine vc_y rfl rfl (y_as rfl) ?_
 refine vc_end (vq_then (vc_keep [(0, _), (3, _)] ⟨rfl, rfl, trivial⟩ (vc_seq (vc_seq (vc_region ?_)))))
 refine vc_y rfl rfl (y_mv rfl) ?_
 refine vc_y rfl rfl (y_lensl rfl Tryd.underlying76) ?_
 refine vc_y rfl rfl (y_mv rfl) ?_
 refine vc_end (vq_then (vc_keep [(3, _), (6, _), (7, _), (8, _)] ⟨rfl, rfl, rfl, rfl, trivial⟩ (vc_block ?_)))
 refine vc_loop (w0 := w0) (M := []) (fun (j : Nat) => [(3, .int .i64 (mx dpS (a.take j) : Int)), (6, .slice oa a.length ca), (7, .int .i64 (a.length : Int)), (8, .int .i64 (j : Int))]) (fun _ => []) (fun j _ => j ≤ a.length) (fun j => a.length - j) 0 ⟨rfl, rfl, rfl, rfl, trivial⟩ (st.drop (by repeat (first | exact sl0 | apply sl1 | apply sl2))) (by omega) ?_
 clear st
 rintro j w hj st
 refine vc_seq (vc_region ?_)
 refine vc_y rfl rfl (y_lss rfl rfl) ?_
 refine vc_end (vq_then (vc_keep [(3, _), (6, _), (7, _), (8, _), (9, _)] ⟨rfl, rfl, rfl, rfl, rfl, trivial⟩ (vc_seq ?_)))
 refine vc_ifs rfl ?_ ?_
 ·
  intro hc9
  try simp only [dn] at hc9
  obtain ⟨x, hx⟩ : ∃ x, a[j]? = some x := ⟨_, List.getElem?_eq_getElem (by omega)⟩
  have hz := mem_size hx
  have hkx := hok.2 j x hx
  obtain ⟨gb, go, rfl, hg⟩ := SmRow.gets hA (by omega)
  obtain ⟨oe, obb, ol, ce, cbb, cl, hc, hse, hsb, hsl⟩ := hg j x hx
  have hB2 : szo x.body < szo a := by
   have : szo x.body < szo x := by cases x; exact sm_size.1
   omega
  have hL2 : szo x.els < szo a := by
   have : szo x.els < szo x := by cases x; exact sm_size.2
   omega
  have m1 := sum_mem szS hx
  rw [← szSs_eq, szS_kids] at m1
  have t1 := mxT (f := dpS) hx
  have t2 := mx_le dpS a (j + 1)
  rw [← dpL_eq a] at t2
  have t3 := dpL_le a
  have t4 := dpS_kids x
  have t5 := dpL_le x.body
  have t6 := dpL_le x.els
  refine vc_code_skip (vq_then (vc_keep [(3, _), (6, _), (7, _), (8, _)] ⟨rfl, rfl, rfl, rfl, trivial⟩ (vc_seq (vc_block (vc_seq (vc_region ?_))))))
  refine vc_y rfl rfl ((by exact y_ia (k := j) rfl rfl Tryd.underlying76 Tryd.sizeOf83 rfl (by omega))) ?_
  refine vc_y rfl rfl ((by exact y_ldca (smC x oe obb ol ce cbb cl) rfl Tryd.isAgg83 Tryd.sizeOf83 rfl (fun i v hi => st.chg.cell (hc i v hi) (by simp)))) ?_
  refine vc_e (e_al (l := [_, _, _, _, _, _, _]) st rfl rfl Tryd.zeroValue83 rfl ?_)
  intro b5 w hb5 st
  refine vc_e (e_sts (vs := [_, _, _, _, _, _, _]) st 0 rfl rfl rfl rfl rfl Tryd.sizeOf83 rfl rfl (by first | (right; assumption) | (left; simp)) ?_)
  intro w st; dsimp only [setNth, wr] at st
  refine vc_end (vq_then (vc_keep [(3, _), (5, _), (6, _), (7, _), (8, _)] ⟨rfl, rfl, rfl, rfl, rfl, trivial⟩ (vc_seq (vc_seq (vc_region ?_)))))
  refine vc_y rfl rfl (y_fa0 rfl Tryd.underlying83 rfl rfl Tryd.sizeOf81 rfl) ?_
  refine vc_y rfl rfl ((by exact y_ld st 0 rfl Tryd.isAgg81 rfl rfl)) ?_
  refine vc_y rfl rfl (y_nei rfl rfl) ?_
  refine vc_e (e_mvb rfl rfl rfl ?_ ?_)
  ·
   intro hg15
   try simp only [dn] at hg15
   refine vc_y rfl rfl (y_fa0 rfl Tryd.underlying83 rfl rfl Tryd.sizeOf81 rfl) ?_
   refine vc_y rfl rfl ((by exact y_ld st 0 rfl Tryd.isAgg81 rfl rfl)) ?_
   refine vc_y rfl rfl (y_nei rfl rfl) ?_
   refine vc_y rfl rfl (y_pickt rfl rfl) ?_
   refine vc_e (e_mvb rfl rfl rfl ?_ ?_)
   ·
    intro hg20
    try simp only [dn] at hg20
    refine vc_y rfl rfl (y_fa0 rfl Tryd.underlying83 rfl rfl Tryd.sizeOf81 rfl) ?_
    refine vc_y rfl rfl ((by exact y_ld st 0 rfl Tryd.isAgg81 rfl rfl)) ?_
    refine vc_y rfl rfl (y_nei rfl rfl) ?_
    refine vc_y rfl rfl (y_pickt rfl rfl) ?_
    refine vc_end (vq_then (vc_keep [(3, _), (5, _), (6, _), (7, _), (8, _), (24, _)] ⟨rfl, rfl, rfl, rfl, rfl, rfl, trivial⟩ ?_))
    refine vc_ifs rfl ?_ ?_
    ·
     intro hc24
     try simp only [dn] at hc24
     rw [if_neg (by omega)] at t4
     refine vc_exit (vq_then_exit (vq_block_exit (vq_then (vc_keep [(3, _), (6, _), (7, _), (8, _)] ⟨rfl, rfl, rfl, rfl, trivial⟩ (vc_region ?_)))))
     refine vc_y rfl rfl (y_add rfl rfl (by omega : _ = ((j + 1 : Nat) : Int)) (by omega) (by omega)) ?_
     refine vc_y rfl rfl (y_mv rfl) ?_
     refine vc_end ?_
     refine vq_again (j + 1)  ⟨(congrArg some (congrArg (Value.int .i64) (by omega))), rfl, rfl, rfl, trivial⟩ (st.drop (by repeat (first | exact sl0 | apply sl1 | apply sl2))) ?_ ?_
     ·
      (show j + 1 ≤ a.length; omega)
     ·
      omega
    ·
     intro hc24
     try simp only [dn] at hc24
     refine vc_code_skip (vq_then (vc_keep [(3, _), (5, _), (6, _), (7, _), (8, _)] ⟨rfl, rfl, rfl, rfl, rfl, trivial⟩ (vc_seq (vc_region ?_))))
     rw [if_pos (by omega)] at t4
     refine vc_y rfl rfl (y_mv rfl) ?_
     refine vc_y rfl rfl ((by exact y_faz (k := 4) rfl Tryd.underlying83 rfl rfl Tryd.sizeOf76 rfl)) ?_
     refine vc_y rfl rfl ((by exact y_ld st 0 rfl Tryd.isAgg76 rfl rfl)) ?_
     refine vc_e (e_call [_] rfl rfl Tryd.call56 rfl (ih _ hB2 x.body rfl hkx.body (by omega) _ _ _ (hsb.kept (Same.of_nil st.chg))) ?_)
     rintro _ w ⟨rfl, cw⟩
     replace st := st.call0 cw
     refine vc_y rfl rfl (y_add rfl rfl rfl (by omega) (by omega)) ?_
     refine vc_y rfl rfl (y_max rfl rfl) ?_
     refine vc_y rfl rfl (y_as rfl) ?_
     refine vc_end (vq_then (vc_keep [(3, _), (5, _), (6, _), (7, _), (8, _)] ⟨rfl, rfl, rfl, rfl, rfl, trivial⟩ (vc_seq (vc_region ?_))))
     refine vc_y rfl rfl ((by exact y_faz (k := 5) rfl Tryd.underlying83 rfl rfl Tryd.sizeOf76 rfl)) ?_
     refine vc_y rfl rfl ((by exact y_ld st 0 rfl Tryd.isAgg76 rfl rfl)) ?_
     refine vc_y rfl rfl (y_lensl rfl Tryd.underlying76) ?_
     refine vc_y rfl rfl (y_gtr rfl rfl) ?_
     refine vc_end (vq_then (vc_keep [(3, _), (5, _), (6, _), (7, _), (8, _), (34, _)] ⟨rfl, rfl, rfl, rfl, rfl, rfl, trivial⟩ ?_))
     refine vc_ifs rfl ?_ ?_
     ·
      intro hc34
      try simp only [dn] at hc34
      rw [if_pos (by omega)] at t4
      refine vc_region ?_
      refine vc_y rfl rfl (y_mv rfl) ?_
      refine vc_y rfl rfl ((by exact y_faz (k := 5) rfl Tryd.underlying83 rfl rfl Tryd.sizeOf76 rfl)) ?_
      refine vc_y rfl rfl ((by exact y_ld st 0 rfl Tryd.isAgg76 rfl rfl)) ?_
      refine vc_e (e_call [_] rfl rfl Tryd.call56 rfl (ih _ hL2 x.els rfl hkx.els (by omega) _ _ _ (hsl.kept (Same.of_nil st.chg))) ?_)
      rintro _ w ⟨rfl, cw⟩
      replace st := st.call0 cw
      refine vc_y rfl rfl (y_add rfl rfl rfl (by omega) (by omega)) ?_
      refine vc_y rfl rfl (y_max rfl rfl) ?_
      refine vc_y rfl rfl (y_as rfl) ?_
      refine vc_end (vq_block (vq_then (vc_keep [(3, _), (6, _), (7, _), (8, _)] ⟨rfl, rfl, rfl, rfl, trivial⟩ (vc_region ?_))))
      refine vc_y rfl rfl (y_add rfl rfl (by omega : _ = ((j + 1 : Nat) : Int)) (by omega) (by omega)) ?_
      refine vc_y rfl rfl (y_mv rfl) ?_
      refine vc_end ?_
      refine vq_again (j + 1)  ⟨(congrArg some (congrArg (Value.int .i64) (by omega))), rfl, rfl, rfl, trivial⟩ (st.drop (by repeat (first | exact sl0 | apply sl1 | apply sl2))) ?_ ?_
      ·
       (show j + 1 ≤ a.length; omega)
      ·
       omega
     ·
      intro hc34
      try simp only [dn] at hc34
      rw [if_neg (by omega)] at t4
      refine vc_code_skip (vq_block (vq_then (vc_keep [(3, _), (6, _), (7, _), (8, _)] ⟨rfl, rfl, rfl, rfl, trivial⟩ (vc_region ?_))))
      refine vc_y rfl rfl (y_add rfl rfl (by omega : _ = ((j + 1 : Nat) : Int)) (by omega) (by omega)) ?_
      refine vc_y rfl rfl (y_mv rfl) ?_
      refine vc_end ?_
      refine vq_again (j + 1)  ⟨(congrArg some (congrArg (Value.int .i64) (by omega))), rfl, rfl, rfl, trivial⟩ (st.drop (by repeat (first | exact sl0 | apply sl1 | apply sl2))) ?_ ?_
      ·
       (show j + 1 ≤ a.length; omega)
      ·
       omega
   ·
    intro hg20
    try simp only [dn] at hg20
    iterate 3 refine vc_e (e_skip rfl rfl ?_)
    refine vc_y rfl rfl (y_pickf rfl rfl) ?_
    refine vc_end (vq_then (vc_keep [(3, _), (5, _), (6, _), (7, _), (8, _), (24, _)] ⟨rfl, rfl, rfl, rfl, rfl, rfl, trivial⟩ ?_))
    refine vc_iff rfl ?_
    refine vc_code_skip (vq_then (vc_keep [(3, _), (5, _), (6, _), (7, _), (8, _)] ⟨rfl, rfl, rfl, rfl, rfl, trivial⟩ (vc_seq (vc_region ?_))))
    rw [if_pos (by omega)] at t4
    refine vc_y rfl rfl (y_mv rfl) ?_
    refine vc_y rfl rfl ((by exact y_faz (k := 4) rfl Tryd.underlying83 rfl rfl Tryd.sizeOf76 rfl)) ?_
    refine vc_y rfl rfl ((by exact y_ld st 0 rfl Tryd.isAgg76 rfl rfl)) ?_
    refine vc_e (e_call [_] rfl rfl Tryd.call56 rfl (ih _ hB2 x.body rfl hkx.body (by omega) _ _ _ (hsb.kept (Same.of_nil st.chg))) ?_)
    rintro _ w ⟨rfl, cw⟩
    replace st := st.call0 cw
    refine vc_y rfl rfl (y_add rfl rfl rfl (by omega) (by omega)) ?_
    refine vc_y rfl rfl (y_max rfl rfl) ?_
    refine vc_y rfl rfl (y_as rfl) ?_
    refine vc_end (vq_then (vc_keep [(3, _), (5, _), (6, _), (7, _), (8, _)] ⟨rfl, rfl, rfl, rfl, rfl, trivial⟩ (vc_seq (vc_region ?_))))
    refine vc_y rfl rfl ((by exact y_faz (k := 5) rfl Tryd.underlying83 rfl rfl Tryd.sizeOf76 rfl)) ?_
    refine vc_y rfl rfl ((by exact y_ld st 0 rfl Tryd.isAgg76 rfl rfl)) ?_
    refine vc_y rfl rfl (y_lensl rfl Tryd.underlying76) ?_
    refine vc_y rfl rfl (y_gtr rfl rfl) ?_
    refine vc_end (vq_then (vc_keep [(3, _), (5, _), (6, _), (7, _), (8, _), (34, _)] ⟨rfl, rfl, rfl, rfl, rfl, rfl, trivial⟩ ?_))
    refine vc_ifs rfl ?_ ?_
    ·
     intro hc34
     try simp only [dn] at hc34
     rw [if_pos (by omega)] at t4
     refine vc_region ?_
     refine vc_y rfl rfl (y_mv rfl) ?_
     refine vc_y rfl rfl ((by exact y_faz (k := 5) rfl Tryd.underlying83 rfl rfl Tryd.sizeOf76 rfl)) ?_
     refine vc_y rfl rfl ((by exact y_ld st 0 rfl Tryd.isAgg76 rfl rfl)) ?_
     refine vc_e (e_call [_] rfl rfl Tryd.call56 rfl (ih _ hL2 x.els rfl hkx.els (by omega) _ _ _ (hsl.kept (Same.of_nil st.chg))) ?_)
     rintro _ w ⟨rfl, cw⟩
     replace st := st.call0 cw
     refine vc_y rfl rfl (y_add rfl rfl rfl (by omega) (by omega)) ?_
     refine vc_y rfl rfl (y_max rfl rfl) ?_
     refine vc_y rfl rfl (y_as rfl) ?_
     refine vc_end (vq_block (vq_then (vc_keep [(3, _), (6, _), (7, _), (8, _)] ⟨rfl, rfl, rfl, rfl, trivial⟩ (vc_region ?_))))
     refine vc_y rfl rfl (y_add rfl rfl (by omega : _ = ((j + 1 : Nat) : Int)) (by omega) (by omega)) ?_
     refine vc_y rfl rfl (y_mv rfl) ?_
     refine vc_end ?_
     refine vq_again (j + 1)  ⟨(congrArg some (congrArg (Value.int .i64) (by omega))), rfl, rfl, rfl, trivial⟩ (st.drop (by repeat (first | exact sl0 | apply sl1 | apply sl2))) ?_ ?_
     ·
      (show j + 1 ≤ a.length; omega)
     ·
      omega
    ·
     intro hc34
     try simp only [dn] at hc34
     rw [if_neg (by omega)] at t4
     refine vc_code_skip (vq_block (vq_then (vc_keep [(3, _), (6, _), (7, _), (8, _)] ⟨rfl, rfl, rfl, rfl, trivial⟩ (vc_region ?_))))
     refine vc_y rfl rfl (y_add rfl rfl (by omega : _ = ((j + 1 : Nat) : Int)) (by omega) (by omega)) ?_
     refine vc_y rfl rfl (y_mv rfl) ?_
     refine vc_end ?_
     refine vq_again (j + 1)  ⟨(congrArg some (congrArg (Value.int .i64) (by omega))), rfl, rfl, rfl, trivial⟩ (st.drop (by repeat (first | exact sl0 | apply sl1 | apply sl2))) ?_ ?_
     ·
      (show j + 1 ≤ a.length; omega)
     ·
      omega
  ·
   intro hg15
   try simp only [dn] at hg15
   iterate 3 refine vc_e (e_skip rfl rfl ?_)
   refine vc_y rfl rfl (y_pickf rfl rfl) ?_
   refine vc_y rfl rfl (y_mv rfl) ?_
   iterate 3 refine vc_e (e_skip rfl rfl ?_)
   refine vc_y rfl rfl (y_pickf rfl rfl) ?_
   refine vc_end (vq_then (vc_keep [(3, _), (5, _), (6, _), (7, _), (8, _), (24, _)] ⟨rfl, rfl, rfl, rfl, rfl, rfl, trivial⟩ ?_))
   refine vc_iff rfl ?_
   refine vc_code_skip (vq_then (vc_keep [(3, _), (5, _), (6, _), (7, _), (8, _)] ⟨rfl, rfl, rfl, rfl, rfl, trivial⟩ (vc_seq (vc_region ?_))))
   rw [if_pos (by omega)] at t4
   refine vc_y rfl rfl (y_mv rfl) ?_
   refine vc_y rfl rfl ((by exact y_faz (k := 4) rfl Tryd.underlying83 rfl rfl Tryd.sizeOf76 rfl)) ?_
   refine vc_y rfl rfl ((by exact y_ld st 0 rfl Tryd.isAgg76 rfl rfl)) ?_
   refine vc_e (e_call [_] rfl rfl Tryd.call56 rfl (ih _ hB2 x.body rfl hkx.body (by omega) _ _ _ (hsb.kept (Same.of_nil st.chg))) ?_)
   rintro _ w ⟨rfl, cw⟩
   replace st := st.call0 cw
   refine vc_y rfl rfl (y_add rfl rfl rfl (by omega) (by omega)) ?_
   refine vc_y rfl rfl (y_max rfl rfl) ?_
   refine vc_y rfl rfl (y_as rfl) ?_
   refine vc_end (vq_then (vc_keep [(3, _), (5, _), (6, _), (7, _), (8, _)] ⟨rfl, rfl, rfl, rfl, rfl, trivial⟩ (vc_seq (vc_region ?_))))
   refine vc_y rfl rfl ((by exact y_faz (k := 5) rfl Tryd.underlying83 rfl rfl Tryd.sizeOf76 rfl)) ?_
   refine vc_y rfl rfl ((by exact y_ld st 0 rfl Tryd.isAgg76 rfl rfl)) ?_
   refine vc_y rfl rfl (y_lensl rfl Tryd.underlying76) ?_
   refine vc_y rfl rfl (y_gtr rfl rfl) ?_
   refine vc_end (vq_then (vc_keep [(3, _), (5, _), (6, _), (7, _), (8, _), (34, _)] ⟨rfl, rfl, rfl, rfl, rfl, rfl, trivial⟩ ?_))
   refine vc_ifs rfl ?_ ?_
   ·
    intro hc34
    try simp only [dn] at hc34
    rw [if_pos (by omega)] at t4
    refine vc_region ?_
    refine vc_y rfl rfl (y_mv rfl) ?_
    refine vc_y rfl rfl ((by exact y_faz (k := 5) rfl Tryd.underlying83 rfl rfl Tryd.sizeOf76 rfl)) ?_
    refine vc_y rfl rfl ((by exact y_ld st 0 rfl Tryd.isAgg76 rfl rfl)) ?_
    refine vc_e (e_call [_] rfl rfl Tryd.call56 rfl (ih _ hL2 x.els rfl hkx.els (by omega) _ _ _ (hsl.kept (Same.of_nil st.chg))) ?_)
    rintro _ w ⟨rfl, cw⟩
    replace st := st.call0 cw
    refine vc_y rfl rfl (y_add rfl rfl rfl (by omega) (by omega)) ?_
    refine vc_y rfl rfl (y_max rfl rfl) ?_
    refine vc_y rfl rfl (y_as rfl) ?_
    refine vc_end (vq_block (vq_then (vc_keep [(3, _), (6, _), (7, _), (8, _)] ⟨rfl, rfl, rfl, rfl, trivial⟩ (vc_region ?_))))
    refine vc_y rfl rfl (y_add rfl rfl (by omega : _ = ((j + 1 : Nat) : Int)) (by omega) (by omega)) ?_
    refine vc_y rfl rfl (y_mv rfl) ?_
    refine vc_end ?_
    refine vq_again (j + 1)  ⟨(congrArg some (congrArg (Value.int .i64) (by omega))), rfl, rfl, rfl, trivial⟩ (st.drop (by repeat (first | exact sl0 | apply sl1 | apply sl2))) ?_ ?_
    ·
     (show j + 1 ≤ a.length; omega)
    ·
     omega
   ·
    intro hc34
    try simp only [dn] at hc34
    rw [if_neg (by omega)] at t4
    refine vc_code_skip (vq_block (vq_then (vc_keep [(3, _), (6, _), (7, _), (8, _)] ⟨rfl, rfl, rfl, rfl, trivial⟩ (vc_region ?_))))
    refine vc_y rfl rfl (y_add rfl rfl (by omega : _ = ((j + 1 : Nat) : Int)) (by omega) (by omega)) ?_
    refine vc_y rfl rfl (y_mv rfl) ?_
    refine vc_end ?_
    refine vq_again (j + 1)  ⟨(congrArg some (congrArg (Value.int .i64) (by omega))), rfl, rfl, rfl, trivial⟩ (st.drop (by repeat (first | exact sl0 | apply sl1 | apply sl2))) ?_ ?_
    ·
     (show j + 1 ≤ a.length; omega)
    ·
     omega
 ·
  intro hc9
  try simp only [dn] at hc9
  refine vc_exit (vq_then_exit (vq_then_exit (vq_block_exit (vq_then (vc_keep [(3, _)] ⟨rfl, trivial⟩ (vc_seq (vc_region ?_)))))))
  refine vc_y rfl rfl (y_mv rfl) ?_
  refine vc_y rfl rfl (y_as rfl) ?_
  refine vc_end (vq_then (vc_keep [(2, _)] ⟨rfl, trivial⟩ (vc_ret ?_)))
  refine vq_ret1 st (.inl rfl) Tryd.results56 (.tmp rfl) ?_
  refine ⟨_, rfl, ?_⟩
  refine ⟨?_, st.chg⟩
  rw [List.take_of_length_le (by omega), dpL_eq]

set_option maxHeartbeats 1000000 in
theorem deepest_any : ∀ (n : Nat) (a : List Sm), szo a = n → OkSs a → szSs a ≤ 1048576 → ∀ (e : Int), 0 ≤ e → e + (szSs a : Int) ≤ 2097152 → ∀ (oa : Option Addr) (ca : Nat) (w : World), SmRow w S oa a →
    Ret Tryd.prog 55 [.slice oa a.length ca, .int .i64 e] w fun v w' => v = .int .i64 (e - 1 + (dpL a : Int)) ∧ Chg [] w w' := by
 intro n
 refine Nat.strongRecOn n fun n ih => ?_
 intro a hn hok hsz e he hb oa ca w hA
 subst hn
 have hn := hok.1
 refine ret_of [_, _] Tryd.func55 rfl Tryd.ntmps55 rfl ?_
 have st := St.init w []
 obtain ⟨w0, rfl⟩ : ∃ w0, w0 = w := ⟨_, rfl⟩
 refine vc_seq (vc_region ?_)
 refine vc_y rfl rfl (y_as rfl) ?_
 refine vc_end (vq_then (vc_keep [(0, _), (1, _)] ⟨rfl, rfl, trivial⟩ (vc_seq (vc_region ?_))))
 refine vc_y rfl rfl (y_mv rfl) ?_
 refine vc_y rfl rfl (y_as rfl) ?_
 refine vc_end (vq_then (vc_keep [(0, _), (1, _), (5, _)] ⟨rfl, rfl, rfl, trivial⟩ (vc_seq (vc_seq (vc_region ?_)))))
 refine vc_y rfl rfl (y_mv rfl) ?_
 refine vc_y rfl rfl (y_lensl rfl Tryd.underlying76) ?_
 refine vc_y rfl rfl (y_mv rfl) ?_
 refine vc_end (vq_then (vc_keep [(1, _), (5, _), (9, _), (10, _), (11, _)] ⟨rfl, rfl, rfl, rfl, rfl, trivial⟩ (vc_block ?_)))
 refine vc_loop (w0 := w0) (M := []) (fun (j : Nat) => [(1, .int .i64 e), (5, .int .i64 (e - 1 + (mx dpS (a.take j) : Int))), (9, .slice oa a.length ca), (10, .int .i64 (a.length : Int)), (11, .int .i64 (j : Int))]) (fun _ => []) (fun j _ => j ≤ a.length) (fun j => a.length - j) 0 ⟨rfl, (congrArg some (congrArg (Value.int .i64) (by show e = e - 1 + ((1 : Nat) : Int); omega))), rfl, rfl, rfl, trivial⟩ (st.drop (by repeat (first | exact sl0 | apply sl1 | apply sl2))) (by omega) ?_
 clear st
 rintro j w hj st
 refine vc_seq (vc_region ?_)
 refine vc_y rfl rfl (y_lss rfl rfl) ?_
 refine vc_end (vq_then (vc_keep [(1, _), (5, _), (9, _), (10, _), (11, _), (12, _)] ⟨rfl, rfl, rfl, rfl, rfl, rfl, trivial⟩ (vc_seq ?_)))
 refine vc_ifs rfl ?_ ?_
 ·
  intro hc12
  try simp only [dn] at hc12
  obtain ⟨x, hx⟩ : ∃ x, a[j]? = some x := ⟨_, List.getElem?_eq_getElem (by omega)⟩
  have hz := mem_size hx
  have hkx := hok.2 j x hx
  obtain ⟨gb, go, rfl, hg⟩ := SmRow.gets hA (by omega)
  obtain ⟨oe, obb, ol, ce, cbb, cl, hc, hse, hsb, hsl⟩ := hg j x hx
  have hB2 : szo x.body < szo a := by
   have : szo x.body < szo x := by cases x; exact sm_size.1
   omega
  have hL2 : szo x.els < szo a := by
   have : szo x.els < szo x := by cases x; exact sm_size.2
   omega
  have m1 := sum_mem szS hx
  rw [← szSs_eq, szS_kids] at m1
  have t1 := mxT (f := dpS) hx
  have t2 := mx_le dpS a (j + 1)
  rw [← dpL_eq a] at t2
  have t3 := dpL_le a
  have t4 := dpS_kids x
  have t5 := dpL_le x.body
  have t6 := dpL_le x.els
  refine vc_code_skip (vq_then (vc_keep [(1, _), (5, _), (9, _), (10, _), (11, _)] ⟨rfl, rfl, rfl, rfl, rfl, trivial⟩ (vc_seq (vc_block (vc_seq (vc_region ?_))))))
  refine vc_y rfl rfl ((by exact y_ia (k := j) rfl rfl Tryd.underlying76 Tryd.sizeOf83 rfl (by omega))) ?_
  refine vc_y rfl rfl ((by exact y_ldca (smC x oe obb ol ce cbb cl) rfl Tryd.isAgg83 Tryd.sizeOf83 rfl (fun i v hi => st.chg.cell (hc i v hi) (by simp)))) ?_
  refine vc_e (e_al (l := [_, _, _, _, _, _, _]) st rfl rfl Tryd.zeroValue83 rfl ?_)
  intro b7 w hb7 st
  refine vc_e (e_sts (vs := [_, _, _, _, _, _, _]) st 0 rfl rfl rfl rfl rfl Tryd.sizeOf83 rfl rfl (by first | (right; assumption) | (left; simp)) ?_)
  intro w st; dsimp only [setNth, wr] at st
  refine vc_end (vq_then (vc_keep [(1, _), (5, _), (7, _), (9, _), (10, _), (11, _)] ⟨rfl, rfl, rfl, rfl, rfl, rfl, trivial⟩ (vc_seq (vc_seq (vc_region ?_)))))
  refine vc_y rfl rfl (y_fa0 rfl Tryd.underlying83 rfl rfl Tryd.sizeOf81 rfl) ?_
  refine vc_y rfl rfl ((by exact y_ld st 0 rfl Tryd.isAgg81 rfl rfl)) ?_
  refine vc_y rfl rfl (y_nei rfl rfl) ?_
  refine vc_e (e_mvb rfl rfl rfl ?_ ?_)
  ·
   intro hg18
   try simp only [dn] at hg18
   refine vc_y rfl rfl (y_fa0 rfl Tryd.underlying83 rfl rfl Tryd.sizeOf81 rfl) ?_
   refine vc_y rfl rfl ((by exact y_ld st 0 rfl Tryd.isAgg81 rfl rfl)) ?_
   refine vc_y rfl rfl (y_nei rfl rfl) ?_
   refine vc_y rfl rfl (y_pickt rfl rfl) ?_
   refine vc_e (e_mvb rfl rfl rfl ?_ ?_)
   ·
    intro hg23
    try simp only [dn] at hg23
    refine vc_y rfl rfl (y_fa0 rfl Tryd.underlying83 rfl rfl Tryd.sizeOf81 rfl) ?_
    refine vc_y rfl rfl ((by exact y_ld st 0 rfl Tryd.isAgg81 rfl rfl)) ?_
    refine vc_y rfl rfl (y_nei rfl rfl) ?_
    refine vc_y rfl rfl (y_pickt rfl rfl) ?_
    refine vc_end (vq_then (vc_keep [(1, _), (5, _), (7, _), (9, _), (10, _), (11, _), (27, _)] ⟨rfl, rfl, rfl, rfl, rfl, rfl, rfl, trivial⟩ ?_))
    refine vc_ifs rfl ?_ ?_
    ·
     intro hc27
     try simp only [dn] at hc27
     rw [if_neg (by omega)] at t4
     refine vc_exit (vq_then_exit (vq_block_exit (vq_then (vc_keep [(1, _), (5, _), (9, _), (10, _), (11, _)] ⟨rfl, rfl, rfl, rfl, rfl, trivial⟩ (vc_region ?_)))))
     refine vc_y rfl rfl (y_add rfl rfl (by omega : _ = ((j + 1 : Nat) : Int)) (by omega) (by omega)) ?_
     refine vc_y rfl rfl (y_mv rfl) ?_
     refine vc_end ?_
     refine vq_again (j + 1)  ⟨rfl, (congrArg some (congrArg (Value.int .i64) (by omega))), rfl, rfl, rfl, trivial⟩ (st.drop (by repeat (first | exact sl0 | apply sl1 | apply sl2))) ?_ ?_
     ·
      (show j + 1 ≤ a.length; omega)
     ·
      omega
    ·
     intro hc27
     try simp only [dn] at hc27
     refine vc_code_skip (vq_then (vc_keep [(1, _), (5, _), (7, _), (9, _), (10, _), (11, _)] ⟨rfl, rfl, rfl, rfl, rfl, rfl, trivial⟩ (vc_seq (vc_region ?_))))
     rw [if_pos (by omega)] at t4
     refine vc_y rfl rfl (y_mv rfl) ?_
     refine vc_y rfl rfl ((by exact y_faz (k := 4) rfl Tryd.underlying83 rfl rfl Tryd.sizeOf76 rfl)) ?_
     refine vc_y rfl rfl ((by exact y_ld st 0 rfl Tryd.isAgg76 rfl rfl)) ?_
     refine vc_y rfl rfl (y_mv rfl) ?_
     refine vc_y rfl rfl (y_add rfl rfl rfl (by omega) (by omega)) ?_
     refine vc_e (e_call [_, _] rfl rfl Tryd.call55 rfl (ih _ hB2 x.body rfl hkx.body (by omega) (e + 1) (by omega) (by omega) _ _ _ (hsb.kept (Same.of_nil st.chg))) ?_)
     rintro _ w ⟨rfl, cw⟩
     replace st := st.call0 cw
     refine vc_y rfl rfl (y_max rfl rfl) ?_
     refine vc_y rfl rfl (y_as rfl) ?_
     refine vc_end (vq_then (vc_keep [(1, _), (5, _), (7, _), (9, _), (10, _), (11, _)] ⟨rfl, rfl, rfl, rfl, rfl, rfl, trivial⟩ (vc_seq (vc_region ?_))))
     refine vc_y rfl rfl ((by exact y_faz (k := 5) rfl Tryd.underlying83 rfl rfl Tryd.sizeOf76 rfl)) ?_
     refine vc_y rfl rfl ((by exact y_ld st 0 rfl Tryd.isAgg76 rfl rfl)) ?_
     refine vc_y rfl rfl (y_lensl rfl Tryd.underlying76) ?_
     refine vc_y rfl rfl (y_gtr rfl rfl) ?_
     refine vc_end (vq_then (vc_keep [(1, _), (5, _), (7, _), (9, _), (10, _), (11, _), (38, _)] ⟨rfl, rfl, rfl, rfl, rfl, rfl, rfl, trivial⟩ ?_))
     refine vc_ifs rfl ?_ ?_
     ·
      intro hc38
      try simp only [dn] at hc38
      rw [if_pos (by omega)] at t4
      refine vc_region ?_
      refine vc_y rfl rfl (y_mv rfl) ?_
      refine vc_y rfl rfl ((by exact y_faz (k := 5) rfl Tryd.underlying83 rfl rfl Tryd.sizeOf76 rfl)) ?_
      refine vc_y rfl rfl ((by exact y_ld st 0 rfl Tryd.isAgg76 rfl rfl)) ?_
      refine vc_y rfl rfl (y_mv rfl) ?_
      refine vc_y rfl rfl (y_add rfl rfl rfl (by omega) (by omega)) ?_
      refine vc_e (e_call [_, _] rfl rfl Tryd.call55 rfl (ih _ hL2 x.els rfl hkx.els (by omega) (e + 1) (by omega) (by omega) _ _ _ (hsl.kept (Same.of_nil st.chg))) ?_)
      rintro _ w ⟨rfl, cw⟩
      replace st := st.call0 cw
      refine vc_y rfl rfl (y_max rfl rfl) ?_
      refine vc_y rfl rfl (y_as rfl) ?_
      refine vc_end (vq_block (vq_then (vc_keep [(1, _), (5, _), (9, _), (10, _), (11, _)] ⟨rfl, rfl, rfl, rfl, rfl, trivial⟩ (vc_region ?_))))
      refine vc_y rfl rfl (y_add rfl rfl (by omega : _ = ((j + 1 : Nat) : Int)) (by omega) (by omega)) ?_
      refine vc_y rfl rfl (y_mv rfl) ?_
      refine vc_end ?_
      refine vq_again (j + 1)  ⟨rfl, (congrArg some (congrArg (Value.int .i64) (by omega))), rfl, rfl, rfl, trivial⟩ (st.drop (by repeat (first | exact sl0 | apply sl1 | apply sl2))) ?_ ?_
      ·
       (show j + 1 ≤ a.length; omega)
      ·
       omega
     ·
      intro hc38
      try simp only [dn] at hc38
      rw [if_neg (by omega)] at t4
      refine vc_code_skip (vq_block (vq_then (vc_keep [(1, _), (5, _), (9, _), (10, _), (11, _)] ⟨rfl, rfl, rfl, rfl, rfl, trivial⟩ (vc_region ?_))))
      refine vc_y rfl rfl (y_add rfl rfl (by omega : _ = ((j + 1 : Nat) : Int)) (by omega) (by omega)) ?_
      refine vc_y rfl rfl (y_mv rfl) ?_
      refine vc_end ?_
      refine vq_again (j + 1)  ⟨rfl, (congrArg some (congrArg (Value.int .i64) (by omega))), rfl, rfl, rfl, trivial⟩ (st.drop (by repeat (first | exact sl0 | apply sl1 | apply sl2))) ?_ ?_
      ·
       (show j + 1 ≤ a.length; omega)
      ·
       omega
   ·
    intro hg23
    try simp only [dn] at hg23
    iterate 3 refine vc_e (e_skip rfl rfl ?_)
    refine vc_y rfl rfl (y_pickf rfl rfl) ?_
    refine vc_end (vq_then (vc_keep [(1, _), (5, _), (7, _), (9, _), (10, _), (11, _), (27, _)] ⟨rfl, rfl, rfl, rfl, rfl, rfl, rfl, trivial⟩ ?_))
    refine vc_iff rfl ?_
    refine vc_code_skip (vq_then (vc_keep [(1, _), (5, _), (7, _), (9, _), (10, _), (11, _)] ⟨rfl, rfl, rfl, rfl, rfl, rfl, trivial⟩ (vc_seq (vc_region ?_))))
    rw [if_pos (by omega)] at t4
    refine vc_y rfl rfl (y_mv rfl) ?_
    refine vc_y rfl rfl ((by exact y_faz (k := 4) rfl Tryd.underlying83 rfl rfl Tryd.sizeOf76 rfl)) ?_
    refine vc_y rfl rfl ((by exact y_ld st 0 rfl Tryd.isAgg76 rfl rfl)) ?_
    refine vc_y rfl rfl (y_mv rfl) ?_
    refine vc_y rfl rfl (y_add rfl rfl rfl (by omega) (by omega)) ?_
    refine vc_e (e_call [_, _] rfl rfl Tryd.call55 rfl (ih _ hB2 x.body rfl hkx.body (by omega) (e + 1) (by omega) (by omega) _ _ _ (hsb.kept (Same.of_nil st.chg))) ?_)
    rintro _ w ⟨rfl, cw⟩
    replace st := st.call0 cw
    refine vc_y rfl rfl (y_max rfl rfl) ?_
    refine vc_y rfl rfl (y_as rfl) ?_
    refine vc_end (vq_then (vc_keep [(1, _), (5, _), (7, _), (9, _), (10, _), (11, _)] ⟨rfl, rfl, rfl, rfl, rfl, rfl, trivial⟩ (vc_seq (vc_region ?_))))
    refine vc_y rfl rfl ((by exact y_faz (k := 5) rfl Tryd.underlying83 rfl rfl Tryd.sizeOf76 rfl)) ?_
    refine vc_y rfl rfl ((by exact y_ld st 0 rfl Tryd.isAgg76 rfl rfl)) ?_
    refine vc_y rfl rfl (y_lensl rfl Tryd.underlying76) ?_
    refine vc_y rfl rfl (y_gtr rfl rfl) ?_
    refine vc_end (vq_then (vc_keep [(1, _), (5, _), (7, _), (9, _), (10, _), (11, _), (38, _)] ⟨rfl, rfl, rfl, rfl, rfl, rfl, rfl, trivial⟩ ?_))
    refine vc_ifs rfl ?_ ?_
    ·
     intro hc38
     try simp only [dn] at hc38
     rw [if_pos (by omega)] at t4
     refine vc_region ?_
     refine vc_y rfl rfl (y_mv rfl) ?_
     refine vc_y rfl rfl ((by exact y_faz (k := 5) rfl Tryd.underlying83 rfl rfl Tryd.sizeOf76 rfl)) ?_
     refine vc_y rfl rfl ((by exact y_ld st 0 rfl Tryd.isAgg76 rfl rfl)) ?_
     refine vc_y rfl rfl (y_mv rfl) ?_
     refine vc_y rfl rfl (y_add rfl rfl rfl (by omega) (by omega)) ?_
     refine vc_e (e_call [_, _] rfl rfl Tryd.call55 rfl (ih _ hL2 x.els rfl hkx.els (by omega) (e + 1) (by omega) (by omega) _ _ _ (hsl.kept (Same.of_nil st.chg))) ?_)
     rintro _ w ⟨rfl, cw⟩
     replace st := st.call0 cw
     refine vc_y rfl rfl (y_max rfl rfl) ?_
     refine vc_y rfl rfl (y_as rfl) ?_
     refine vc_end (vq_block (vq_then (vc_keep [(1, _), (5, _), (9, _), (10, _), (11, _)] ⟨rfl, rfl, rfl, rfl, rfl, trivial⟩ (vc_region ?_))))
     refine vc_y rfl rfl (y_add rfl rfl (by omega : _ = ((j + 1 : Nat) : Int)) (by omega) (by omega)) ?_
     refine vc_y rfl rfl (y_mv rfl) ?_
     refine vc_end ?_
     refine vq_again (j + 1)  ⟨rfl, (congrArg some (congrArg (Value.int .i64) (by omega))), rfl, rfl, rfl, trivial⟩ (st.drop (by repeat (first | exact sl0 | apply sl1 | apply sl2))) ?_ ?_
     ·
      (show j + 1 ≤ a.length; omega)
     ·
      omega
    ·
     intro hc38
     try simp only [dn] at hc38
     rw [if_neg (by omega)] at t4
     refine vc_code_skip (vq_block (vq_then (vc_keep [(1, _), (5, _), (9, _), (10, _), (11, _)] ⟨rfl, rfl, rfl, rfl, rfl, trivial⟩ (vc_region ?_))))
     refine vc_y rfl rfl (y_add rfl rfl (by omega : _ = ((j + 1 : Nat) : Int)) (by omega) (by omega)) ?_
     refine vc_y rfl rfl (y_mv rfl) ?_
     refine vc_end ?_
     refine vq_again (j + 1)  ⟨rfl, (congrArg some (congrArg (Value.int .i64) (by omega))), rfl, rfl, rfl, trivial⟩ (st.drop (by repeat (first | exact sl0 | apply sl1 | apply sl2))) ?_ ?_
     ·
      (show j + 1 ≤ a.length; omega)
     ·
      omega
  ·
   intro hg18
   try simp only [dn] at hg18
   iterate 3 refine vc_e (e_skip rfl rfl ?_)
   refine vc_y rfl rfl (y_pickf rfl rfl) ?_
   refine vc_y rfl rfl (y_mv rfl) ?_
   iterate 3 refine vc_e (e_skip rfl rfl ?_)
   refine vc_y rfl rfl (y_pickf rfl rfl) ?_
   refine vc_end (vq_then (vc_keep [(1, _), (5, _), (7, _), (9, _), (10, _), (11, _), (27, _)] ⟨rfl, rfl, rfl, rfl, rfl, rfl, rfl, trivial⟩ ?_))
   refine vc_iff rfl ?_
   refine vc_code_skip (vq_then (vc_keep [(1, _), (5, _), (7, _), (9, _), (10, _), (11, _)] ⟨rfl, rfl, rfl, rfl, rfl, rfl, trivial⟩ (vc_seq (vc_region ?_))))
   rw [if_pos (by omega)] at t4
   refine vc_y rfl rfl (y_mv rfl) ?_
   refine vc_y rfl rfl ((by exact y_faz (k := 4) rfl Tryd.underlying83 rfl rfl Tryd.sizeOf76 rfl)) ?_
   refine vc_y rfl rfl ((by exact y_ld st 0 rfl Tryd.isAgg76 rfl rfl)) ?_
   refine vc_y rfl rfl (y_mv rfl) ?_
   refine vc_y rfl rfl (y_add rfl rfl rfl (by omega) (by omega)) ?_
   refine vc_e (e_call [_, _] rfl rfl Tryd.call55 rfl (ih _ hB2 x.body rfl hkx.body (by omega) (e + 1) (by omega) (by omega) _ _ _ (hsb.kept (Same.of_nil st.chg))) ?_)
   rintro _ w ⟨rfl, cw⟩
   replace st := st.call0 cw
   refine vc_y rfl rfl (y_max rfl rfl) ?_
   refine vc_y rfl rfl (y_as rfl) ?_
   refine vc_end (vq_then (vc_keep [(1, _), (5, _), (7, _), (9, _), (10, _), (11, _)] ⟨rfl, rfl, rfl, rfl, rfl, rfl, trivial⟩ (vc_seq (vc_region ?_))))
   refine vc_y rfl rfl ((by exact y_faz (k := 5) rfl Tryd.underlying83 rfl rfl Tryd.sizeOf76 rfl)) ?_
   refine vc_y rfl rfl ((by exact y_ld st 0 rfl Tryd.isAgg76 rfl rfl)) ?_
   refine vc_y rfl rfl (y_lensl rfl Tryd.underlying76) ?_
   refine vc_y rfl rfl (y_gtr rfl rfl) ?_
   refine vc_end (vq_then (vc_keep [(1, _), (5, _), (7, _), (9, _), (10, _), (11, _), (38, _)] ⟨rfl, rfl, rfl, rfl, rfl, rfl, rfl, trivial⟩ ?_))
   refine vc_ifs rfl ?_ ?_
   ·
    intro hc38
    try simp only [dn] at hc38
    rw [if_pos (by omega)] at t4
    refine vc_region ?_
    refine vc_y rfl rfl (y_mv rfl) ?_
    refine vc_y rfl rfl ((by exact y_faz (k := 5) rfl Tryd.underlying83 rfl rfl Tryd.sizeOf76 rfl)) ?_
    refine vc_y rfl rfl ((by exact y_ld st 0 rfl Tryd.isAgg76 rfl rfl)) ?_
    refine vc_y rfl rfl (y_mv rfl) ?_
    refine vc_y rfl rfl (y_add rfl rfl rfl (by omega) (by omega)) ?_
    refine vc_e (e_call [_, _] rfl rfl Tryd.call55 rfl (ih _ hL2 x.els rfl hkx.els (by omega) (e + 1) (by omega) (by omega) _ _ _ (hsl.kept (Same.of_nil st.chg))) ?_)
    rintro _ w ⟨rfl, cw⟩
    replace st := st.call0 cw
    refine vc_y rfl rfl (y_max rfl rfl) ?_
    refine vc_y rfl rfl (y_as rfl) ?_
    refine vc_end (vq_block (vq_then (vc_keep [(1, _), (5, _), (9, _), (10, _), (11, _)] ⟨rfl, rfl, rfl, rfl, rfl, trivial⟩ (vc_region ?_))))
    refine vc_y rfl rfl (y_add rfl rfl (by omega : _ = ((j + 1 : Nat) : Int)) (by omega) (by omega)) ?_
    refine vc_y rfl rfl (y_mv rfl) ?_
    refine vc_end ?_
    refine vq_again (j + 1)  ⟨rfl, (congrArg some (congrArg (Value.int .i64) (by omega))), rfl, rfl, rfl, trivial⟩ (st.drop (by repeat (first | exact sl0 | apply sl1 | apply sl2))) ?_ ?_
    ·
     (show j + 1 ≤ a.length; omega)
    ·
     omega
   ·
    intro hc38
    try simp only [dn] at hc38
    rw [if_neg (by omega)] at t4
    refine vc_code_skip (vq_block (vq_then (vc_keep [(1, _), (5, _), (9, _), (10, _), (11, _)] ⟨rfl, rfl, rfl, rfl, rfl, trivial⟩ (vc_region ?_))))
    refine vc_y rfl rfl (y_add rfl rfl (by omega : _ = ((j + 1 : Nat) : Int)) (by omega) (by omega)) ?_
    refine vc_y rfl rfl (y_mv rfl) ?_
    refine vc_end ?_
    refine vq_again (j + 1)  ⟨rfl, (congrArg some (congrArg (Value.int .i64) (by omega))), rfl, rfl, rfl, trivial⟩ (st.drop (by repeat (first | exact sl0 | apply sl1 | apply sl2))) ?_ ?_
    ·
     (show j + 1 ≤ a.length; omega)
    ·
     omega
 ·
  intro hc12
  try simp only [dn] at hc12
  refine vc_exit (vq_then_exit (vq_then_exit (vq_block_exit (vq_then (vc_keep [(5, _)] ⟨rfl, trivial⟩ (vc_seq (vc_region ?_)))))))
  refine vc_y rfl rfl (y_mv rfl) ?_
  refine vc_y rfl rfl (y_as rfl) ?_
  refine vc_end (vq_then (vc_keep [(4, _)] ⟨rfl, trivial⟩ (vc_ret ?_)))
  refine vq_ret1 st (.inl rfl) Tryd.results55 (.tmp rfl) ?_
  refine ⟨_, rfl, ?_⟩
  refine ⟨?_, st.chg⟩
  rw [List.take_of_length_le (by omega), dpL_eq]

theorem rdeepP_any (p : Pg) (hok : OkP p) (hsz : szTs p.threads ≤ 1048576) (os ol ot : Option Addr) (cs cl ct : Nat) (w : World) (hA : ThRow w S ot p.threads) :
    Ret Tryd.prog 26 [.agg (pgC p os ol ot cs cl ct).toArray] w fun v w' => v = .int .i64 (dpP p.threads : Int) ∧ Chg [] w w' := by
 refine ret_of [_] Tryd.func26 rfl Tryd.ntmps26 rfl ?_
 have st := St.init w []
 obtain ⟨w0, rfl⟩ : ∃ w0, w0 = w := ⟨_, rfl⟩
 have hn3 := hok.2.2.1
 refine vc_seq (vc_region ?_)
 refine vc_e (e_bx (l := [_, _, _]) st rfl rfl rfl rfl ?_)
 intro b1 w hb1 st
 refine vc_y rfl rfl (y_as rfl) ?_
 refine vc_end (vq_then (vc_keep [(1, _)] ⟨rfl, trivial⟩ (vc_seq (vc_region ?_))))
 refine vc_y rfl rfl (y_as rfl) ?_
 refine vc_end (vq_then (vc_keep [(1, _), (3, _)] ⟨rfl, rfl, trivial⟩ (vc_seq (vc_seq (vc_region ?_)))))
 refine vc_y rfl rfl ((by exact y_faz (k := 2) rfl Tryd.underlying44 rfl rfl Tryd.sizeOf42 rfl)) ?_
 refine vc_y rfl rfl ((by exact y_ld st 0 rfl Tryd.isAgg42 rfl rfl)) ?_
 refine vc_y rfl rfl (y_lensl rfl Tryd.underlying42) ?_
 refine vc_y rfl rfl (y_mv rfl) ?_
 refine vc_end (vq_then (vc_keep [(3, _), (7, _), (8, _), (9, _)] ⟨rfl, rfl, rfl, rfl, trivial⟩ (vc_block ?_)))
 refine vc_loop (w0 := w0) (M := []) (fun (j : Nat) => [(3, .int .i64 (dpP (p.threads.take j) : Int)), (7, .slice ot p.threads.length ct), (8, .int .i64 (p.threads.length : Int)), (9, .int .i64 (j : Int))]) (fun _ => []) (fun j _ => j ≤ p.threads.length) (fun j => p.threads.length - j) 0 ⟨rfl, rfl, rfl, rfl, trivial⟩ (st.drop (by repeat (first | exact sl0 | apply sl1 | apply sl2))) (by omega) ?_
 clear st
 rintro j w hj st
 refine vc_seq (vc_region ?_)
 refine vc_y rfl rfl (y_lss rfl rfl) ?_
 refine vc_end (vq_then (vc_keep [(3, _), (7, _), (8, _), (9, _), (10, _)] ⟨rfl, rfl, rfl, rfl, rfl, trivial⟩ (vc_seq ?_)))
 refine vc_ifs rfl ?_ ?_
 ·
  intro hc10
  try simp only [dn] at hc10
  obtain ⟨x, hx⟩ : ∃ x, p.threads[j]? = some x := ⟨_, List.getElem?_eq_getElem (by omega)⟩
  have hkx := hok.2.2.2 j x hx
  obtain ⟨gb, go, rfl, hg⟩ := ThRow.gets hA (by omega)
  obtain ⟨tl, tb, cll, cbb, hc, htl, htb⟩ := hg j x hx
  have m1 := szTs_mem hx
  have t1 := dpPT hx
  have t2 := dpL_le x.body
  refine vc_code_skip (vq_then (vc_keep [(3, _), (7, _), (8, _), (9, _)] ⟨rfl, rfl, rfl, rfl, trivial⟩ (vc_seq (vc_block (vc_seq (vc_region ?_))))))
  refine vc_y rfl rfl ((by exact y_ia (k := j) rfl rfl Tryd.underlying42 Tryd.sizeOf78 rfl (by omega))) ?_
  refine vc_y rfl rfl ((by exact y_ldca (thC x tl tb cll cbb) rfl Tryd.isAgg78 Tryd.sizeOf78 rfl (fun i v hi => st.chg.cell (hc i v hi) (by simp)))) ?_
  refine vc_e (e_al (l := [_, _, _, _]) st rfl rfl Tryd.zeroValue78 rfl ?_)
  intro b5 w hb5 st
  refine vc_e (e_sts (vs := [_, _, _, _]) st 0 rfl rfl rfl rfl rfl Tryd.sizeOf78 rfl rfl (by first | (right; assumption) | (left; simp)) ?_)
  intro w st; dsimp only [setNth, wr] at st
  refine vc_end (vq_then (vc_keep [(3, _), (5, _), (7, _), (8, _), (9, _)] ⟨rfl, rfl, rfl, rfl, rfl, trivial⟩ (vc_region ?_)))
  refine vc_y rfl rfl (y_mv rfl) ?_
  refine vc_y rfl rfl ((by exact y_faz (k := 2) rfl Tryd.underlying78 rfl rfl Tryd.sizeOf76 rfl)) ?_
  refine vc_y rfl rfl ((by exact y_ld st 0 rfl Tryd.isAgg76 rfl rfl)) ?_
  refine vc_e (e_call [_] rfl rfl Tryd.call56 rfl (rdeep_any _ x.body rfl hkx.2.1 (by omega) _ _ _ (htb.kept (Same.of_nil st.chg))) ?_)
  rintro _ w ⟨rfl, cw⟩
  replace st := st.call0 cw
  refine vc_y rfl rfl (y_max rfl rfl) ?_
  refine vc_y rfl rfl (y_as rfl) ?_
  refine vc_end (vq_block (vq_then (vc_keep [(3, _), (7, _), (8, _), (9, _)] ⟨rfl, rfl, rfl, rfl, trivial⟩ (vc_region ?_))))
  refine vc_y rfl rfl (y_add rfl rfl (by omega : _ = ((j + 1 : Nat) : Int)) (by omega) (by omega)) ?_
  refine vc_y rfl rfl (y_mv rfl) ?_
  refine vc_end ?_
  refine vq_again (j + 1)  ⟨(congrArg some (congrArg (Value.int .i64) (by omega))), rfl, rfl, rfl, trivial⟩ (st.drop (by repeat (first | exact sl0 | apply sl1 | apply sl2))) ?_ ?_
  ·
   (show j + 1 ≤ p.threads.length; omega)
  ·
   omega
 ·
  intro hc10
  try simp only [dn] at hc10
  refine vc_exit (vq_then_exit (vq_then_exit (vq_block_exit (vq_then (vc_keep [(3, _)] ⟨rfl, trivial⟩ (vc_seq (vc_region ?_)))))))
  refine vc_y rfl rfl (y_mv rfl) ?_
  refine vc_y rfl rfl (y_as rfl) ?_
  refine vc_end (vq_then (vc_keep [(2, _)] ⟨rfl, trivial⟩ (vc_ret ?_)))
  refine vq_ret1 st (.inl rfl) Tryd.results26 (.tmp rfl) ?_
  refine ⟨_, rfl, ?_⟩
  refine ⟨?_, st.chg⟩
  rw [List.take_of_length_le (by omega)]

theorem pdeepP_any (p : Pg) (hok : OkP p) (hsz : szTs p.threads ≤ 1048576) (os ol ot : Option Addr) (cs cl ct : Nat) (w : World) (hA : ThRow w S ot p.threads) :
    Ret Tryd.prog 25 [.agg (pgC p os ol ot cs cl ct).toArray] w fun v w' => v = .int .i64 (dpP p.threads : Int) ∧ Chg [] w w' := by
 refine ret_of [_] Tryd.func25 rfl Tryd.ntmps25 rfl ?_
 have st := St.init w []
 obtain ⟨w0, rfl⟩ : ∃ w0, w0 = w := ⟨_, rfl⟩
 have hn3 := hok.2.2.1
 refine vc_seq (vc_region ?_)
 refine vc_e (e_bx (l := [_, _, _]) st rfl rfl rfl rfl ?_)
 intro b1 w hb1 st
 refine vc_y rfl rfl (y_as rfl) ?_
 refine vc_end (vq_then (vc_keep [(1, _)] ⟨rfl, trivial⟩ (vc_seq (vc_region ?_))))
 refine vc_y rfl rfl (y_as rfl) ?_
 refine vc_end (vq_then (vc_keep [(1, _), (3, _)] ⟨rfl, rfl, trivial⟩ (vc_seq (vc_seq (vc_region ?_)))))
 refine vc_y rfl rfl ((by exact y_faz (k := 2) rfl Tryd.underlying44 rfl rfl Tryd.sizeOf42 rfl)) ?_
 refine vc_y rfl rfl ((by exact y_ld st 0 rfl Tryd.isAgg42 rfl rfl)) ?_
 refine vc_y rfl rfl (y_lensl rfl Tryd.underlying42) ?_
 refine vc_y rfl rfl (y_mv rfl) ?_
 refine vc_end (vq_then (vc_keep [(3, _), (7, _), (8, _), (9, _)] ⟨rfl, rfl, rfl, rfl, trivial⟩ (vc_block ?_)))
 refine vc_loop (w0 := w0) (M := []) (fun (j : Nat) => [(3, .int .i64 (dpP (p.threads.take j) : Int)), (7, .slice ot p.threads.length ct), (8, .int .i64 (p.threads.length : Int)), (9, .int .i64 (j : Int))]) (fun _ => []) (fun j _ => j ≤ p.threads.length) (fun j => p.threads.length - j) 0 ⟨rfl, rfl, rfl, rfl, trivial⟩ (st.drop (by repeat (first | exact sl0 | apply sl1 | apply sl2))) (by omega) ?_
 clear st
 rintro j w hj st
 refine vc_seq (vc_region ?_)
 refine vc_y rfl rfl (y_lss rfl rfl) ?_
 refine vc_end (vq_then (vc_keep [(3, _), (7, _), (8, _), (9, _), (10, _)] ⟨rfl, rfl, rfl, rfl, rfl, trivial⟩ (vc_seq ?_)))
 refine vc_ifs rfl ?_ ?_
 ·
  intro hc10
  try simp only [dn] at hc10
  obtain ⟨x, hx⟩ : ∃ x, p.threads[j]? = some x := ⟨_, List.getElem?_eq_getElem (by omega)⟩
  have hkx := hok.2.2.2 j x hx
  obtain ⟨gb, go, rfl, hg⟩ := ThRow.gets hA (by omega)
  obtain ⟨tl, tb, cll, cbb, hc, htl, htb⟩ := hg j x hx
  have m1 := szTs_mem hx
  have t1 := dpPT hx
  have t2 := dpL_le x.body
  refine vc_code_skip (vq_then (vc_keep [(3, _), (7, _), (8, _), (9, _)] ⟨rfl, rfl, rfl, rfl, trivial⟩ (vc_seq (vc_block (vc_seq (vc_region ?_))))))
  refine vc_y rfl rfl ((by exact y_ia (k := j) rfl rfl Tryd.underlying42 Tryd.sizeOf78 rfl (by omega))) ?_
  refine vc_y rfl rfl ((by exact y_ldca (thC x tl tb cll cbb) rfl Tryd.isAgg78 Tryd.sizeOf78 rfl (fun i v hi => st.chg.cell (hc i v hi) (by simp)))) ?_
  refine vc_e (e_al (l := [_, _, _, _]) st rfl rfl Tryd.zeroValue78 rfl ?_)
  intro b5 w hb5 st
  refine vc_e (e_sts (vs := [_, _, _, _]) st 0 rfl rfl rfl rfl rfl Tryd.sizeOf78 rfl rfl (by first | (right; assumption) | (left; simp)) ?_)
  intro w st; dsimp only [setNth, wr] at st
  refine vc_end (vq_then (vc_keep [(3, _), (5, _), (7, _), (8, _), (9, _)] ⟨rfl, rfl, rfl, rfl, rfl, trivial⟩ (vc_region ?_)))
  refine vc_y rfl rfl (y_mv rfl) ?_
  refine vc_y rfl rfl ((by exact y_faz (k := 2) rfl Tryd.underlying78 rfl rfl Tryd.sizeOf76 rfl)) ?_
  refine vc_y rfl rfl ((by exact y_ld st 0 rfl Tryd.isAgg76 rfl rfl)) ?_
  refine vc_e (e_call [_, _] rfl rfl Tryd.call55 rfl (deepest_any _ x.body rfl hkx.2.1 (by omega) 1 (by omega) (by omega) _ _ _ (htb.kept (Same.of_nil st.chg))) ?_)
  rintro _ w ⟨rfl, cw⟩
  replace st := st.call0 cw
  refine vc_y rfl rfl (y_max rfl rfl) ?_
  refine vc_y rfl rfl (y_as rfl) ?_
  refine vc_end (vq_block (vq_then (vc_keep [(3, _), (7, _), (8, _), (9, _)] ⟨rfl, rfl, rfl, rfl, trivial⟩ (vc_region ?_))))
  refine vc_y rfl rfl (y_add rfl rfl (by omega : _ = ((j + 1 : Nat) : Int)) (by omega) (by omega)) ?_
  refine vc_y rfl rfl (y_mv rfl) ?_
  refine vc_end ?_
  refine vq_again (j + 1)  ⟨(congrArg some (congrArg (Value.int .i64) (by omega))), rfl, rfl, rfl, trivial⟩ (st.drop (by repeat (first | exact sl0 | apply sl1 | apply sl2))) ?_ ?_
  ·
   (show j + 1 ≤ p.threads.length; omega)
  ·
   omega
 ·
  intro hc10
  try simp only [dn] at hc10
  refine vc_exit (vq_then_exit (vq_then_exit (vq_block_exit (vq_then (vc_keep [(3, _)] ⟨rfl, trivial⟩ (vc_seq (vc_region ?_)))))))
  refine vc_y rfl rfl (y_mv rfl) ?_
  refine vc_y rfl rfl (y_as rfl) ?_
  refine vc_end (vq_then (vc_keep [(2, _)] ⟨rfl, trivial⟩ (vc_ret ?_)))
  refine vq_ret1 st (.inl rfl) Tryd.results25 (.tmp rfl) ?_
  refine ⟨_, rfl, ?_⟩
  refine ⟨?_, st.chg⟩
  rw [List.take_of_length_le (by omega)]

end
end Go.Proofs.YtggnfanphcaamaaDoor


/- When a tree may be written, and its text: no program in sight. -/
namespace LexS
open Sx
set_option linter.unusedVariables false
set_option linter.unusedSimpArgs false
/-! ## when a tree may be written, and its text -/
/-- does a kid of a binary expression stand in parentheses? -/
def inn (op : Int) (x : Ex) (second : Bool) : Bool := decide (x.k = 4) && (decide (lvlO x.op < lvlO op) || second && decide (lvlO x.op = lvlO op))
end LexS


namespace Go.Proofs.YtggnfanphcaamaaDoor
open Go.RowKit Sx LexS
abbrev Sig (w : World) : Prop := SigAt 0 w
abbrev pgL (p : Pg) (os ol ot : Option Addr) (cs cl ct : Nat) : List Value := [.slice os p.shared.length cs, .slice ol p.locks.length cl, .slice ot p.threads.length ct]
set_option linter.unusedVariables false
set_option linter.unusedSimpArgs false
/-! ## reading rows -/
theorem RowC.at {w : World} {S : Nat → Prop} {sz n : Nat} {oa : Option Addr} {vs : Nat → List Value} (h : RowC w S sz oa n vs) (hn : 0 < n) :
    ∃ b off, oa = some ⟨b, off, none⟩ ∧ S b ∧ b < w.heap.size ∧ ∀ j, j < n → (vs j).length = sz ∧ ∀ i v, (vs j)[i]? = some v → w.cell? ⟨b, off + j * sz + i, none⟩ = some v := by
  rcases h with h | h
  · omega
  · exact h
abbrev szo {α : Type} [SizeOf α] (x : α) : Nat := SizeOf.sizeOf x
theorem ex_size {k op wd : Int} {nm : List UInt8} {kids : List Ex} {a : Int} : szo kids < szo (Ex.mk k op wd nm kids a) := by
  simp only [szo, Ex.mk.sizeOf_spec]; omega
theorem mem_size {α : Type} [SizeOf α] {l : List α} {j : Nat} {x : α} (h : l[j]? = some x) : szo x < szo l := List.sizeOf_lt_of_mem (List.mem_of_getElem? h)
theorem sm_size {k : Int} {nm other : List UInt8} {e : List Ex} {body els : List Sm} {a : Int} : szo body < szo (Sm.mk k nm other e body els a) ∧ szo els < szo (Sm.mk k nm other e body els a) := by
  simp only [szo, Sm.mk.sizeOf_spec]; omega
section
variable {w w' : World} {S : Nat → Prop} {M : List Nat}
/-- an expression's value -/
abbrev exL (e : Ex) (oa : Option Addr) (cap : Nat) : List Value := [.int .u8 e.k, .int .u8 e.op, .int .i64 e.wd, str e.nm, .slice oa e.kids.length cap, .int .i64 e.a]
theorem ExV.inv {e : Ex} {l : List Value} (h : ExV w S e l) : ∃ oa cap, l = exL e oa cap ∧ ExRow w S oa e.kids := by
  cases h with
  | mk vs hr hk => exact ⟨_, _, rfl, vs, hr, hk⟩
theorem ExRow.at {oa : Option Addr} {es : List Ex} (h : ExRow w S oa es) (hn : 0 < es.length) : ∃ b off, oa = some ⟨b, off, none⟩ ∧ S b ∧ b < w.heap.size ∧
    ∀ j x, es[j]? = some x → ∃ o c, ExV w S x (exL x o c) ∧ ExRow w S o x.kids ∧ ∀ i v, (exL x o c)[i]? = some v → w.cell? ⟨b, off + j * 6 + i, none⟩ = some v := by
  obtain ⟨vs, hr, hk⟩ := h
  obtain ⟨b, off, e, hb, hl, hc⟩ := RowC.at hr hn
  refine ⟨b, off, e, hb, hl, fun j x hx => ?_⟩
  have hx' := hk j x hx
  obtain ⟨o, c, e2, hr2⟩ := ExV.inv hx'
  have := (hc j (List.getElem?_eq_some_iff.1 hx).1).2
  rw [e2] at hx' this
  exact ⟨o, c, hx', hr2, this⟩
/-- a statement's value -/
abbrev smL (s : Sm) (oe ob ol : Option Addr) (ce cb cl : Nat) : List Value := [.int .u8 s.k, str s.nm, str s.other, .slice oe s.e.length ce, .slice ob s.body.length cb, .slice ol s.els.length cl, .int .i64 s.a]
theorem SmV.inv {s : Sm} {l : List Value} (h : SmV w S s l) : ∃ oe ob ol ce cb cl, l = smL s oe ob ol ce cb cl ∧ ExRow w S oe s.e ∧ SmRow w S ob s.body ∧ SmRow w S ol s.els := by
  cases h with
  | mk vb vl he hb hbk hl hlk => exact ⟨_, _, _, _, _, _, rfl, he, ⟨vb, hb, hbk⟩, ⟨vl, hl, hlk⟩⟩
theorem SmRow.at {oa : Option Addr} {es : List Sm} (h : SmRow w S oa es) (hn : 0 < es.length) : ∃ b off, oa = some ⟨b, off, none⟩ ∧ S b ∧ b < w.heap.size ∧
    ∀ j s, es[j]? = some s → ∃ oe ob ol ce cb cl, SmV w S s (smL s oe ob ol ce cb cl) ∧ ExRow w S oe s.e ∧ SmRow w S ob s.body ∧ SmRow w S ol s.els ∧ ∀ i v, (smL s oe ob ol ce cb cl)[i]? = some v → w.cell? ⟨b, off + j * 7 + i, none⟩ = some v := by
  obtain ⟨vs, hr, hk⟩ := h
  obtain ⟨b, off, e, hb, hl, hc⟩ := RowC.at hr hn
  refine ⟨b, off, e, hb, hl, fun j x hx => ?_⟩
  have hx' := hk j x hx
  obtain ⟨oe, ob, ol, ce, cb, cl, e2, h1, h2, h3⟩ := SmV.inv hx'
  have := (hc j (List.getElem?_eq_some_iff.1 hx).1).2
  rw [e2] at hx' this
  exact ⟨oe, ob, ol, ce, cb, cl, hx', h1, h2, h3, this⟩
theorem DcRow.at {oa : Option Addr} {ds : List Dc} (h : DcRow w S oa ds) (hn : 0 < ds.length) : ∃ b off, oa = some ⟨b, off, none⟩ ∧ S b ∧ b < w.heap.size ∧
    ∀ j x, ds[j]? = some x → ∀ i v, (dcL x)[i]? = some v → w.cell? ⟨b, off + j * 3 + i, none⟩ = some v := by
  obtain ⟨b, off, e, hb, hl, hc⟩ := RowC.at h hn
  refine ⟨b, off, e, hb, hl, fun j x hx => ?_⟩
  have hj := (List.getElem?_eq_some_iff.1 hx).1
  have := (hc j hj).2
  simp only [List.getD, hx, Option.getD_some] at this
  exact this
abbrev thL (t : Th) (ol ob : Option Addr) (cl cb : Nat) : List Value := [str t.nm, .slice ol t.locals.length cl, .slice ob t.body.length cb, .int .i64 t.a]
theorem ThRow.at {oa : Option Addr} {ts : List Th} (h : ThRow w S oa ts) (hn : 0 < ts.length) : ∃ b off, oa = some ⟨b, off, none⟩ ∧ S b ∧ b < w.heap.size ∧
    ∀ j t, ts[j]? = some t → ∃ ol ob cl cb, DcRow w S ol t.locals ∧ SmRow w S ob t.body ∧ ∀ i v, (thL t ol ob cl cb)[i]? = some v → w.cell? ⟨b, off + j * 4 + i, none⟩ = some v := by
  obtain ⟨vs, hr, hk⟩ := h
  obtain ⟨b, off, e, hb, hl, hc⟩ := RowC.at hr hn
  refine ⟨b, off, e, hb, hl, fun j x hx => ?_⟩
  obtain ⟨ol, cl, ob, cb, e2, h1, h2⟩ := hk j x hx
  have := (hc j (List.getElem?_eq_some_iff.1 hx).1).2
  rw [e2] at this
  exact ⟨ol, ob, cl, cb, h1, h2, this⟩
end
theorem szo_kids (e : Ex) : szo e.kids < szo e := by cases e; exact ex_size
end Go.Proofs.YtggnfanphcaamaaDoor


/- Four blocks that are known. -/
namespace Sx
open Go Go.RowKit
theorem St.of4 {w : World} {b c d e : Nat} {o p q r : Obj} (M : List Nat) (h1 : w.heap[b]? = some o) (h2 : w.heap[c]? = some p) (h3 : w.heap[d]? = some q) (h4 : w.heap[e]? = some r) (n1 : b ≠ c) (n2 : b ≠ d) (n3 : b ≠ e) (n4 : c ≠ d) (n5 : c ≠ e) (n6 : d ≠ e) : St w M [.blk b o, .blk c p, .blk d q, .blk e r] w :=
  ⟨Chg.refl M w, List.pairwise_cons.2 ⟨by simp [Res.at?, n1, n2, n3], List.pairwise_cons.2 ⟨by simp [Res.at?, n4, n5], List.pairwise_cons.2 ⟨by simp [Res.at?, n6], List.pairwise_singleton _ _⟩⟩⟩, by simp [Res.holds, h1, h2, h3, h4]⟩
end Sx


namespace Go.Proofs.YtggnfanphcaamaaDoor
open Go.RowKit Sx LexS ParS
set_option linter.unusedVariables false
set_option linter.unusedSimpArgs false
section
variable {S : Nat → Prop}
abbrev kE (x : Ex) : Nat := nEs x.kids
abbrev kS (x : Sm) : Nat := stSs x.body + stSs x.els
abbrev fnE (b5 b6 : Nat) : Value := .func (.func 48) [].toArray [.pointer (some ⟨b5, 0, none⟩), .pointer (some ⟨b6, 0, none⟩)].toArray
abbrev fnS (b4 b6 b7 : Nat) : Value := .func (.func 49) [].toArray [.pointer (some ⟨b4, 0, none⟩), .pointer (some ⟨b6, 0, none⟩), .pointer (some ⟨b7, 0, none⟩)].toArray
abbrev cI (n : Nat) : Obj := .cells [.int .i64 (n : Int)].toArray 3 (0, 0)
abbrev cE (b5 b6 : Nat) : Obj := .cells [fnE b5 b6].toArray 100 (0, 0)
abbrev cS (b4 b6 b7 : Nat) : Obj := .cells [fnS b4 b6 b7].toArray 101 (0, 0)

set_option maxHeartbeats 1000000 in
theorem goesE_any : ∀ (n : Nat) (a : List Ex), szo a = n → OkEs a → ∀ (c : Nat), c + nEs a ≤ 2097152 → ∀ (oa : Option Addr) (ca p5 p6 : Nat) (w : World), ExRow w S oa a → (∀ b, S b → b ≠ p5) → w.heap[p5]? = some (cI c) → w.heap[p6]? = some (cE p5 p6) → p5 ≠ p6 →
    Ret Tryd.prog 48 [.slice oa a.length ca, .pointer (some ⟨p5, 0, none⟩), .pointer (some ⟨p6, 0, none⟩)] w fun v w' => w'.heap[p5]? = some (cI (c + nEs a)) ∧ Chg [p5] w w' := by
  intro n
  refine Nat.strongRecOn n fun n ih => ?_
  intro a hn hok c hcb oa ca p5 p6 w hA hS h5 h6 hne
  subst hn
  have hn := hok.1
  refine ret_of [_, _, _] Tryd.func48 rfl Tryd.ntmps48 rfl ?_
  
  obtain ⟨w0, rfl⟩ : ∃ w0, w0 = w := ⟨_, rfl⟩
  have hsp : nEs a = a.length + sm kE a := nEs_split a
  have st := St.of2 [p5] h5 h6 hne
  refine vc_seq ?_
  refine vc_region ?_
  refine vc_y rfl rfl ((by first | exact y_ld st 0 rfl Tryd.isAgg3 rfl rfl | exact y_ld st 1 rfl Tryd.isAgg3 rfl rfl | exact y_ld st 2 rfl Tryd.isAgg3 rfl rfl)) ?_
  refine vc_y rfl rfl (y_mv rfl) ?_
  refine vc_y rfl rfl (y_lensl rfl Tryd.underlying24) ?_
  refine vc_y rfl rfl (y_add rfl rfl (by show _ = ((c + a.length + 0 : Nat) : Int); omega) (by omega) (by omega)) ?_
  first
  | refine vc_e (e_st st 0 rfl rfl rfl rfl Tryd.sizeOf3 rfl rfl (by first | (right; assumption) | (left; simp)) ?_)
  | refine vc_e (e_st st 1 rfl rfl rfl rfl Tryd.sizeOf3 rfl rfl (by first | (right; assumption) | (left; simp)) ?_)
  | refine vc_e (e_st st 2 rfl rfl rfl rfl Tryd.sizeOf3 rfl rfl (by first | (right; assumption) | (left; simp)) ?_)
  intro w st; dsimp only [setNth, wr] at st
  refine vc_end ?_
  refine vq_then ?_
  refine vc_keep [(0, _), (2, _)] ⟨rfl, rfl, trivial⟩ ?_
  refine vc_seq ?_
  refine vc_region ?_
  refine vc_y rfl rfl (y_mv rfl) ?_
  refine vc_y rfl rfl (y_lensl rfl Tryd.underlying24) ?_
  refine vc_y rfl rfl (y_mv rfl) ?_
  refine vc_end ?_
  refine vq_then ?_
  refine vc_keep [(2, _), (10, _), (11, _), (12, _)] ⟨rfl, rfl, rfl, rfl, trivial⟩ ?_
  refine vc_block ?_
  refine vc_loop (w0 := w0) (M := [p5]) (fun (j : Nat) => [(2, .pointer (some ⟨p6, 0, none⟩)), (10, .slice oa a.length ca), (11, .int .i64 (a.length : Int)), (12, .int .i64 (j : Int))]) (fun j => [.blk p5 (cI (c + a.length + sm kE (a.take j))), .blk p6 (cE p5 p6)]) (fun j _ => j ≤ a.length) (fun j => a.length - j) 0 ⟨rfl, rfl, rfl, rfl, trivial⟩ st (by omega) ?_
  clear st
  rintro j w hj st
  refine vc_seq ?_
  refine vc_region ?_
  refine vc_y rfl rfl (y_lss rfl rfl) ?_
  refine vc_end ?_
  refine vq_then ?_
  refine vc_keep [(2, _), (10, _), (11, _), (12, _), (13, _)] ⟨rfl, rfl, rfl, rfl, rfl, trivial⟩ ?_
  refine vc_seq ?_
  refine vc_ifs rfl ?_ ?_
  · intro hc13
    try simp only [decide_eq_true_eq, decide_eq_false_iff_not, Bool.not_eq_true', Bool.not_eq_false', Bool.not_eq_true, Bool.not_eq_false, Int.not_lt, Int.not_le, Nat.not_lt, Nat.not_le, Bool.not_true, Bool.not_false, Bool.true_eq_false, Bool.false_eq_true] at hc13
    obtain ⟨x, hx⟩ : ∃ x, a[j]? = some x := ⟨_, List.getElem?_eq_getElem (by omega)⟩
    have hz := mem_size hx
    have hkx := hok.2 j x hx
    obtain ⟨gb, go, rfl, hgS, hgl, hg0⟩ := ExRow.at hA (by omega)
    have hgn : gb ∉ [p5] := fun hm => hS gb hgS (by simpa using hm)
    obtain ⟨gb1, go1, he1, hg⟩ := ExRow.gets hA (by omega)
    cases he1
    obtain ⟨o0, c0, hc, hr0⟩ := hg j x hx
    have hz2 : szo x.kids < szo a := by have := szo_kids x; omega
    have t1 := sumT (f := kE) hx
    have t2 := smT_le kE a (j + 1)
    have t0 : kE x = nEs x.kids := rfl
    refine vc_code_skip ?_
    refine vq_then ?_
    refine vc_keep [(2, _), (10, _), (11, _), (12, _)] ⟨rfl, rfl, rfl, rfl, trivial⟩ ?_
    refine vc_seq ?_
    refine vc_block ?_
    refine vc_seq ?_
    refine vc_region ?_
    refine vc_y rfl rfl ((by first | exact y_ia0 (k := j) rfl rfl Tryd.underlying24 Tryd.sizeOf26 rfl (by omega) | exact y_ia (k := j) rfl rfl Tryd.underlying24 Tryd.sizeOf26 rfl (by omega))) ?_
    refine vc_y rfl rfl ((by first | exact y_ldca (exC x o0 c0) rfl Tryd.isAgg26 Tryd.sizeOf26 rfl (fun i v hi => st.chg.cell (hc i v hi) (hgn)) | exact y_lda (vs := [_, _, _, _, _, _]) st 0 rfl Tryd.isAgg26 Tryd.sizeOf26 rfl rfl | exact y_lda (vs := [_, _, _, _, _, _]) st 1 rfl Tryd.isAgg26 Tryd.sizeOf26 rfl rfl | exact y_lda (vs := [_, _, _, _, _, _]) st 2 rfl Tryd.isAgg26 Tryd.sizeOf26 rfl rfl)) ?_
    refine vc_e (e_al (l := [_, _, _, _, _, _]) st rfl rfl Tryd.zeroValue26 rfl ?_)
    intro b5 w hb5 st
    first
    | refine vc_e (e_sts (vs := [_, _, _, _, _, _]) st 0 rfl rfl rfl rfl rfl Tryd.sizeOf26 rfl rfl (by first | (right; assumption) | (left; simp)) ?_)
    | refine vc_e (e_sts (vs := [_, _, _, _, _, _]) st 1 rfl rfl rfl rfl rfl Tryd.sizeOf26 rfl rfl (by first | (right; assumption) | (left; simp)) ?_)
    | refine vc_e (e_sts (vs := [_, _, _, _, _, _]) st 2 rfl rfl rfl rfl rfl Tryd.sizeOf26 rfl rfl (by first | (right; assumption) | (left; simp)) ?_)
    intro w st; dsimp only [setNth, wr] at st
    refine vc_end ?_
    refine vq_then ?_
    refine vc_keep [(2, _), (5, _), (10, _), (11, _), (12, _)] ⟨rfl, rfl, rfl, rfl, rfl, trivial⟩ ?_
    refine vc_region ?_
    refine vc_y rfl rfl ((by first | exact y_ld st 0 rfl Tryd.isAgg100 rfl rfl | exact y_ld st 1 rfl Tryd.isAgg100 rfl rfl | exact y_ld st 2 rfl Tryd.isAgg100 rfl rfl)) ?_
    refine vc_y rfl rfl ((by first | exact y_faz (k := 4) rfl Tryd.underlying26 rfl rfl Tryd.sizeOf24 rfl | exact y_fa (k := 4) rfl Tryd.underlying26 rfl rfl Tryd.sizeOf24 rfl)) ?_
    refine vc_y rfl rfl ((by first | exact y_ld st 0 rfl Tryd.isAgg24 rfl rfl | exact y_ld st 1 rfl Tryd.isAgg24 rfl rfl | exact y_ld st 2 rfl Tryd.isAgg24 rfl rfl)) ?_
    refine vc_e (e_callv [_] rfl rfl rfl Tryd.call48 rfl (ih _ hz2 x.kids rfl hkx.kids (c + a.length + sm kE (a.take j)) (by omega) _ _ _ _ _ (hr0.kept (Same.of_chg st.chg (fun b hb hm => hS b hb (by simpa using hm)))) hS (st.res (i := 1) rfl) (st.res (i := 2) rfl) hne) ?_)
    rintro _ w ⟨h5, cw⟩
    rw [show c + a.length + sm kE (a.take j) + nEs x.kids = c + a.length + sm kE (a.take (j + 1)) by omega] at h5
    replace st := St.prs (b := p5) st 1 rfl cw (.inl (by simp)) h5
    dsimp only [setNth] at st
    refine vc_end ?_
    refine vq_block ?_
    refine vq_then ?_
    refine vc_keep [(2, _), (10, _), (11, _), (12, _)] ⟨rfl, rfl, rfl, rfl, trivial⟩ ?_
    refine vc_region ?_
    refine vc_y rfl rfl (y_add rfl rfl (by omega : _ = ((j + 1 : Nat) : Int)) (by omega) (by omega)) ?_
    refine vc_y rfl rfl (y_mv rfl) ?_
    refine vc_end ?_
    refine vq_again (j + 1)  ⟨rfl, rfl, rfl, rfl, trivial⟩ (st.drop (by repeat (first | exact List.Sublist.slnil | apply List.Sublist.cons_cons | apply List.Sublist.cons))) ?_ ?_
    · (show j + 1 ≤ a.length; omega)
    · omega
  · intro hc13
    try simp only [decide_eq_true_eq, decide_eq_false_iff_not, Bool.not_eq_true', Bool.not_eq_false', Bool.not_eq_true, Bool.not_eq_false, Int.not_lt, Int.not_le, Nat.not_lt, Nat.not_le, Bool.not_true, Bool.not_false, Bool.true_eq_false, Bool.false_eq_true] at hc13
    refine vc_exit ?_
    refine vq_then_exit ?_
    refine vq_then_exit ?_
    refine vq_block_exit ?_
    refine vq_ret0 (.inr rfl) Tryd.results48 ?_
    refine ⟨_, rfl, ?_⟩
    have hf := st.res (i := 0) rfl
    refine ⟨?_, st.chg⟩
    rw [List.take_of_length_le (by omega)] at hf
    rw [hsp, ← Nat.add_assoc]
    exact hf

set_option maxHeartbeats 2000000 in
theorem goes_any : ∀ (n : Nat) (a : List Sm), szo a = n → OkSs a → ∀ (c d : Nat), c + stSs a ≤ 2097152 → d + exSs a ≤ 2097152 → ∀ (oa : Option Addr) (ca p4 p5 p6 p7 : Nat) (w : World), SmRow w S oa a → (∀ b, S b → b ≠ p4) → (∀ b, S b → b ≠ p5) → w.heap[p4]? = some (cI c) → w.heap[p5]? = some (cI d) → w.heap[p6]? = some (cE p5 p6) → w.heap[p7]? = some (cS p4 p6 p7) →
    p4 ≠ p5 → p4 ≠ p6 → p4 ≠ p7 → p5 ≠ p6 → p5 ≠ p7 → p6 ≠ p7 →
    Ret Tryd.prog 49 [.slice oa a.length ca, .pointer (some ⟨p4, 0, none⟩), .pointer (some ⟨p6, 0, none⟩), .pointer (some ⟨p7, 0, none⟩)] w fun v w' => w'.heap[p4]? = some (cI (c + stSs a)) ∧ w'.heap[p5]? = some (cI (d + exSs a)) ∧ Chg [p4, p5] w w' := by
  intro n
  refine Nat.strongRecOn n fun n ih => ?_
  intro a hn hok c d hcb hdb oa ca p4 p5 p6 p7 w hA hS4 hS5 h4 h5 h6 h7 n45 n46 n47 n56 n57 n67
  subst hn
  have hn := hok.1
  refine ret_of [_, _, _, _] Tryd.func49 rfl Tryd.ntmps49 rfl ?_
  
  obtain ⟨w0, rfl⟩ : ∃ w0, w0 = w := ⟨_, rfl⟩
  have hsp : stSs a = a.length + sm kS a := stSs_split a
  have hse := exSs_eq a
  have st := St.of4 [p4, p5] h4 h5 h6 h7 n45 n46 n47 n56 n57 n67
  have hk2 : ∀ {w2 : World}, Chg [p4, p5] w0 w2 → Same S w0 w2 := fun ch => Same.of_chg ch fun b hb hm => by
    rcases List.mem_cons.1 hm with h | h
    · exact hS4 b hb h
    · exact hS5 b hb (by simpa using h)
  refine vc_seq ?_
  refine vc_region ?_
  refine vc_y rfl rfl ((by first | exact y_ld st 0 rfl Tryd.isAgg3 rfl rfl | exact y_ld st 1 rfl Tryd.isAgg3 rfl rfl | exact y_ld st 2 rfl Tryd.isAgg3 rfl rfl | exact y_ld st 3 rfl Tryd.isAgg3 rfl rfl | exact y_ld st 4 rfl Tryd.isAgg3 rfl rfl)) ?_
  refine vc_y rfl rfl (y_mv rfl) ?_
  refine vc_y rfl rfl (y_lensl rfl Tryd.underlying76) ?_
  refine vc_y rfl rfl (y_add rfl rfl (by show _ = ((c + a.length + 0 : Nat) : Int); omega) (by omega) (by omega)) ?_
  first
  | refine vc_e (e_st st 0 rfl rfl rfl rfl Tryd.sizeOf3 rfl rfl (by first | (right; assumption) | (left; simp)) ?_)
  | refine vc_e (e_st st 1 rfl rfl rfl rfl Tryd.sizeOf3 rfl rfl (by first | (right; assumption) | (left; simp)) ?_)
  | refine vc_e (e_st st 2 rfl rfl rfl rfl Tryd.sizeOf3 rfl rfl (by first | (right; assumption) | (left; simp)) ?_)
  | refine vc_e (e_st st 3 rfl rfl rfl rfl Tryd.sizeOf3 rfl rfl (by first | (right; assumption) | (left; simp)) ?_)
  | refine vc_e (e_st st 4 rfl rfl rfl rfl Tryd.sizeOf3 rfl rfl (by first | (right; assumption) | (left; simp)) ?_)
  intro w st; dsimp only [setNth, wr] at st
  refine vc_end ?_
  refine vq_then ?_
  refine vc_keep [(0, _), (2, _), (3, _)] ⟨rfl, rfl, rfl, trivial⟩ ?_
  refine vc_seq ?_
  refine vc_region ?_
  refine vc_y rfl rfl (y_mv rfl) ?_
  refine vc_y rfl rfl (y_lensl rfl Tryd.underlying76) ?_
  refine vc_y rfl rfl (y_mv rfl) ?_
  refine vc_end ?_
  refine vq_then ?_
  refine vc_keep [(2, _), (3, _), (11, _), (12, _), (13, _)] ⟨rfl, rfl, rfl, rfl, rfl, trivial⟩ ?_
  refine vc_block ?_
  refine vc_loop (w0 := w0) (M := [p4, p5]) (fun (j : Nat) => [(2, .pointer (some ⟨p6, 0, none⟩)), (3, .pointer (some ⟨p7, 0, none⟩)), (11, .slice oa a.length ca), (12, .int .i64 (a.length : Int)), (13, .int .i64 (j : Int))]) (fun j => [.blk p4 (cI (c + a.length + sm kS (a.take j))), .blk p5 (cI (d + sm exS (a.take j))), .blk p6 (cE p5 p6), .blk p7 (cS p4 p6 p7)]) (fun j _ => j ≤ a.length) (fun j => a.length - j) 0 ⟨rfl, rfl, rfl, rfl, rfl, trivial⟩ st (by omega) ?_
  clear st
  rintro j w hj st
  refine vc_seq ?_
  refine vc_region ?_
  refine vc_y rfl rfl (y_lss rfl rfl) ?_
  refine vc_end ?_
  refine vq_then ?_
  refine vc_keep [(2, _), (3, _), (11, _), (12, _), (13, _), (14, _)] ⟨rfl, rfl, rfl, rfl, rfl, rfl, trivial⟩ ?_
  refine vc_seq ?_
  refine vc_ifs rfl ?_ ?_
  · intro hc14
    try simp only [decide_eq_true_eq, decide_eq_false_iff_not, Bool.not_eq_true', Bool.not_eq_false', Bool.not_eq_true, Bool.not_eq_false, Int.not_lt, Int.not_le, Nat.not_lt, Nat.not_le, Bool.not_true, Bool.not_false, Bool.true_eq_false, Bool.false_eq_true] at hc14
    obtain ⟨x, hx⟩ : ∃ x, a[j]? = some x := ⟨_, List.getElem?_eq_getElem (by omega)⟩
    have hz := mem_size hx
    have hkx := hok.2 j x hx
    obtain ⟨gb, go, rfl, hgS, hgl, hg0⟩ := SmRow.at hA (by omega)
    have hgn : gb ∉ [p4, p5] := fun hm => by
      rcases List.mem_cons.1 hm with h | h
      · exact hS4 gb hgS h
      · exact hS5 gb hgS (by simpa using h)
    obtain ⟨gb1, go1, he1, hg⟩ := SmRow.gets hA (by omega)
    cases he1
    obtain ⟨oe, obb, ol, ce, cbb, cl, hc, hsE, hsb, hsl⟩ := hg j x hx
    have hB2 : szo x.body < szo a := by
      have : szo x.body < szo x := by cases x; exact sm_size.1
      omega
    have hL2 : szo x.els < szo a := by
      have : szo x.els < szo x := by cases x; exact sm_size.2
      omega
    have t1 := sumT (f := kS) hx
    have t2 := smT_le kS a (j + 1)
    have u1 := sumT (f := exS) hx
    have u2 := smT_le exS a (j + 1)
    have u4 := exS_kids x
    have t0 : kS x = stSs x.body + stSs x.els := rfl
    refine vc_code_skip ?_
    refine vq_then ?_
    refine vc_keep [(2, _), (3, _), (11, _), (12, _), (13, _)] ⟨rfl, rfl, rfl, rfl, rfl, trivial⟩ ?_
    refine vc_seq ?_
    refine vc_block ?_
    refine vc_seq ?_
    refine vc_region ?_
    refine vc_y rfl rfl ((by first | exact y_ia0 (k := j) rfl rfl Tryd.underlying76 Tryd.sizeOf83 rfl (by omega) | exact y_ia (k := j) rfl rfl Tryd.underlying76 Tryd.sizeOf83 rfl (by omega))) ?_
    refine vc_y rfl rfl ((by first | exact y_ldca (smC x oe obb ol ce cbb cl) rfl Tryd.isAgg83 Tryd.sizeOf83 rfl (fun i v hi => st.chg.cell (hc i v hi) (hgn)) | exact y_lda (vs := [_, _, _, _, _, _, _]) st 0 rfl Tryd.isAgg83 Tryd.sizeOf83 rfl rfl | exact y_lda (vs := [_, _, _, _, _, _, _]) st 1 rfl Tryd.isAgg83 Tryd.sizeOf83 rfl rfl | exact y_lda (vs := [_, _, _, _, _, _, _]) st 2 rfl Tryd.isAgg83 Tryd.sizeOf83 rfl rfl | exact y_lda (vs := [_, _, _, _, _, _, _]) st 3 rfl Tryd.isAgg83 Tryd.sizeOf83 rfl rfl | exact y_lda (vs := [_, _, _, _, _, _, _]) st 4 rfl Tryd.isAgg83 Tryd.sizeOf83 rfl rfl)) ?_
    refine vc_e (e_al (l := [_, _, _, _, _, _, _]) st rfl rfl Tryd.zeroValue83 rfl ?_)
    intro b6 w hb6 st
    first
    | refine vc_e (e_sts (vs := [_, _, _, _, _, _, _]) st 0 rfl rfl rfl rfl rfl Tryd.sizeOf83 rfl rfl (by first | (right; assumption) | (left; simp)) ?_)
    | refine vc_e (e_sts (vs := [_, _, _, _, _, _, _]) st 1 rfl rfl rfl rfl rfl Tryd.sizeOf83 rfl rfl (by first | (right; assumption) | (left; simp)) ?_)
    | refine vc_e (e_sts (vs := [_, _, _, _, _, _, _]) st 2 rfl rfl rfl rfl rfl Tryd.sizeOf83 rfl rfl (by first | (right; assumption) | (left; simp)) ?_)
    | refine vc_e (e_sts (vs := [_, _, _, _, _, _, _]) st 3 rfl rfl rfl rfl rfl Tryd.sizeOf83 rfl rfl (by first | (right; assumption) | (left; simp)) ?_)
    | refine vc_e (e_sts (vs := [_, _, _, _, _, _, _]) st 4 rfl rfl rfl rfl rfl Tryd.sizeOf83 rfl rfl (by first | (right; assumption) | (left; simp)) ?_)
    intro w st; dsimp only [setNth, wr] at st
    refine vc_end ?_
    refine vq_then ?_
    refine vc_keep [(2, _), (3, _), (6, _), (11, _), (12, _), (13, _)] ⟨rfl, rfl, rfl, rfl, rfl, rfl, trivial⟩ ?_
    refine vc_seq ?_
    refine vc_region ?_
    refine vc_y rfl rfl ((by first | exact y_ld st 0 rfl Tryd.isAgg100 rfl rfl | exact y_ld st 1 rfl Tryd.isAgg100 rfl rfl | exact y_ld st 2 rfl Tryd.isAgg100 rfl rfl | exact y_ld st 3 rfl Tryd.isAgg100 rfl rfl | exact y_ld st 4 rfl Tryd.isAgg100 rfl rfl)) ?_
    refine vc_y rfl rfl ((by first | exact y_faz (k := 3) rfl Tryd.underlying83 rfl rfl Tryd.sizeOf24 rfl | exact y_fa (k := 3) rfl Tryd.underlying83 rfl rfl Tryd.sizeOf24 rfl)) ?_
    refine vc_y rfl rfl ((by first | exact y_ld st 0 rfl Tryd.isAgg24 rfl rfl | exact y_ld st 1 rfl Tryd.isAgg24 rfl rfl | exact y_ld st 2 rfl Tryd.isAgg24 rfl rfl | exact y_ld st 3 rfl Tryd.isAgg24 rfl rfl | exact y_ld st 4 rfl Tryd.isAgg24 rfl rfl)) ?_
    refine vc_e (e_callv [_] rfl rfl rfl Tryd.call48 rfl (goesE_any _ x.e rfl hkx.e (d + sm exS (a.take j)) (by omega) _ _ _ _ _ (hsE.kept (hk2 st.chg)) hS5 (st.res (i := 2) rfl) (st.res (i := 3) rfl) n56) ?_)
    rintro _ w ⟨h5, cw⟩
    replace st := St.prs (b := p5) st 2 rfl cw (.inl (by simp)) h5
    dsimp only [setNth] at st
    refine vc_end ?_
    refine vq_then ?_
    refine vc_keep [(2, _), (3, _), (6, _), (11, _), (12, _), (13, _)] ⟨rfl, rfl, rfl, rfl, rfl, rfl, trivial⟩ ?_
    refine vc_seq ?_
    refine vc_region ?_
    refine vc_y rfl rfl ((by first | exact y_ld st 0 rfl Tryd.isAgg101 rfl rfl | exact y_ld st 1 rfl Tryd.isAgg101 rfl rfl | exact y_ld st 2 rfl Tryd.isAgg101 rfl rfl | exact y_ld st 3 rfl Tryd.isAgg101 rfl rfl | exact y_ld st 4 rfl Tryd.isAgg101 rfl rfl)) ?_
    refine vc_y rfl rfl ((by first | exact y_faz (k := 4) rfl Tryd.underlying83 rfl rfl Tryd.sizeOf76 rfl | exact y_fa (k := 4) rfl Tryd.underlying83 rfl rfl Tryd.sizeOf76 rfl)) ?_
    refine vc_y rfl rfl ((by first | exact y_ld st 0 rfl Tryd.isAgg76 rfl rfl | exact y_ld st 1 rfl Tryd.isAgg76 rfl rfl | exact y_ld st 2 rfl Tryd.isAgg76 rfl rfl | exact y_ld st 3 rfl Tryd.isAgg76 rfl rfl | exact y_ld st 4 rfl Tryd.isAgg76 rfl rfl)) ?_
    refine vc_e (e_callv [_] rfl rfl rfl Tryd.call49 rfl (ih _ hB2 x.body rfl hkx.body (c + a.length + sm kS (a.take j)) (d + sm exS (a.take j) + nEs x.e) (by omega) (by omega) _ _ _ _ _ _ _ (hsb.kept (hk2 st.chg)) hS4 hS5 (st.res (i := 1) rfl) (st.res (i := 2) rfl) (st.res (i := 3) rfl) (st.res (i := 4) rfl) n45 n46 n47 n56 n57 n67) ?_)
    rintro _ w ⟨h4, h5, cw⟩
    replace st := (St.prs2 (q := .tree [] (fun _ => True)) (st.pick [1, 2, 0, 3, 4] rfl (by decide)) cw (.inl (by simp)) (.inl (by simp)) h4 h5 ⟨trivial, by simp, fun _ _ _ _ _ => trivial⟩ (by simp [Res.at?])).pick [3, 1, 2, 4, 5] rfl (by decide)
    refine vc_end ?_
    refine vq_then ?_
    refine vc_keep [(2, _), (3, _), (6, _), (11, _), (12, _), (13, _)] ⟨rfl, rfl, rfl, rfl, rfl, rfl, trivial⟩ ?_
    refine vc_region ?_
    refine vc_y rfl rfl ((by first | exact y_ld st 0 rfl Tryd.isAgg101 rfl rfl | exact y_ld st 1 rfl Tryd.isAgg101 rfl rfl | exact y_ld st 2 rfl Tryd.isAgg101 rfl rfl | exact y_ld st 3 rfl Tryd.isAgg101 rfl rfl | exact y_ld st 4 rfl Tryd.isAgg101 rfl rfl)) ?_
    refine vc_y rfl rfl ((by first | exact y_faz (k := 5) rfl Tryd.underlying83 rfl rfl Tryd.sizeOf76 rfl | exact y_fa (k := 5) rfl Tryd.underlying83 rfl rfl Tryd.sizeOf76 rfl)) ?_
    refine vc_y rfl rfl ((by first | exact y_ld st 0 rfl Tryd.isAgg76 rfl rfl | exact y_ld st 1 rfl Tryd.isAgg76 rfl rfl | exact y_ld st 2 rfl Tryd.isAgg76 rfl rfl | exact y_ld st 3 rfl Tryd.isAgg76 rfl rfl | exact y_ld st 4 rfl Tryd.isAgg76 rfl rfl)) ?_
    refine vc_e (e_callv [_] rfl rfl rfl Tryd.call49 rfl (ih _ hL2 x.els rfl hkx.els (c + a.length + sm kS (a.take j) + stSs x.body) (d + sm exS (a.take j) + nEs x.e + exSs x.body) (by omega) (by omega) _ _ _ _ _ _ _ (hsl.kept (hk2 st.chg)) hS4 hS5 (st.res (i := 1) rfl) (st.res (i := 2) rfl) (st.res (i := 3) rfl) (st.res (i := 4) rfl) n45 n46 n47 n56 n57 n67) ?_)
    rintro _ w ⟨h4, h5, cw⟩
    rw [show c + a.length + sm kS (a.take j) + stSs x.body + stSs x.els = c + a.length + sm kS (a.take (j + 1)) by omega] at h4
    rw [show d + sm exS (a.take j) + nEs x.e + exSs x.body + exSs x.els = d + sm exS (a.take (j + 1)) by omega] at h5
    replace st := (St.prs2 (q := .tree [] (fun _ => True)) (st.pick [1, 2, 0, 3, 4] rfl (by decide)) cw (.inl (by simp)) (.inl (by simp)) h4 h5 ⟨trivial, by simp, fun _ _ _ _ _ => trivial⟩ (by simp [Res.at?])).pick [3, 1, 2, 4, 5] rfl (by decide)
    refine vc_end ?_
    refine vq_block ?_
    refine vq_then ?_
    refine vc_keep [(2, _), (3, _), (11, _), (12, _), (13, _)] ⟨rfl, rfl, rfl, rfl, rfl, trivial⟩ ?_
    refine vc_region ?_
    refine vc_y rfl rfl (y_add rfl rfl (by omega : _ = ((j + 1 : Nat) : Int)) (by omega) (by omega)) ?_
    refine vc_y rfl rfl (y_mv rfl) ?_
    refine vc_end ?_
    refine vq_again (j + 1)  ⟨rfl, rfl, rfl, rfl, rfl, trivial⟩ (st.drop (by repeat (first | exact List.Sublist.slnil | apply List.Sublist.cons_cons | apply List.Sublist.cons))) ?_ ?_
    · (show j + 1 ≤ a.length; omega)
    · omega
  · intro hc14
    try simp only [decide_eq_true_eq, decide_eq_false_iff_not, Bool.not_eq_true', Bool.not_eq_false', Bool.not_eq_true, Bool.not_eq_false, Int.not_lt, Int.not_le, Nat.not_lt, Nat.not_le, Bool.not_true, Bool.not_false, Bool.true_eq_false, Bool.false_eq_true] at hc14
    refine vc_exit ?_
    refine vq_then_exit ?_
    refine vq_then_exit ?_
    refine vq_block_exit ?_
    refine vq_ret0 (.inr rfl) Tryd.results49 ?_
    refine ⟨_, rfl, ?_⟩
    have hf := st.res (i := 0) rfl
    have hg := st.res (i := 1) rfl
    refine ⟨?_, ?_, st.chg⟩
    · rw [List.take_of_length_le (by omega)] at hf
      rw [hsp, ← Nat.add_assoc]
      exact hf
    · rw [List.take_of_length_le (by omega)] at hg
      rw [hse]
      exact hg

end
end Go.Proofs.YtggnfanphcaamaaDoor

