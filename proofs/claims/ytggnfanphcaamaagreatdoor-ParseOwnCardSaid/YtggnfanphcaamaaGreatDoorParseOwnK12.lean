/- A part of the proof: contracts of functions and plain laws; each theorem says its own conditions. -/
import Derived.Test.YtggnfanphcaamaaGreatDoorParseOwnK1
import Derived.Test.YtggnfanphcaamaaGreatDoorParseOwnK11
import Derived.Test.YtggnfanphcaamaaGreatDoorParseOwnK0
set_option linter.unusedVariables false
set_option linter.unusedSimpArgs false
namespace Go.Proofs.YtggnfanphcaamaaGreatDoor
open Go.RowKit Sx LexS _root_.Go.Proofs.Tryz
section
variable {S : Nat → Prop}

theorem rdeclsS_any (a b : List Dc) (oa ob : Option Addr) (ca cb : Nat) (w : World) (hA : DcRow w S oa a) (hB : DcRow w S ob b) (hn : a.length ≤ 1099511627776) :
    Ret Tryz.prog 35 [.slice oa a.length ca, .slice ob b.length cb] w fun v w' => v = .bool (zipA sameD a b) ∧ Chg [] w w' := by
 refine ret_of [_, _] func35 rfl ntmps35 rfl ?_
 have st := St.init w []
 obtain ⟨w0, rfl⟩ : ∃ w0, w0 = w := ⟨_, rfl⟩
 refine sr ?_
 refine ya ?_
 refine et (vk2 0 1 (vc_seq (sr ?_)))
 refine ym ?_
 refine vy (y_lensl rfl underlying22) ?_
 refine ym ?_
 refine vy (y_lensl rfl underlying22) ?_
 refine vy (y_nei rfl rfl) ?_
 refine et (vk3 0 1 10 ?_)
 refine vif ?_ ?_
 ·intro hc10
  try simp only [dn] at hc10
  refine sr ?_
  refine ya ?_
  refine et (vk1 4 (vc_ret (vq_then_ret ?_)))
  refine vq_ret1 st (.inl rfl) results35 (.tmp rfl) ?_
  refine ⟨_, rfl, ?_⟩
  refine ⟨?_, st.chg⟩
  rw [zipA_len (by omega)]
 intro hc10
 try simp only [dn] at hc10
 have hlen : a.length = b.length := by omega
 refine kt (vk2 0 1 (vc_seq (sr ?_)))
 refine ym ?_
 refine vy (y_lensl rfl underlying22) ?_
 refine ym ?_
 refine et (vk4 0 1 12 13 (vc_block ?_))
 refine vc_loop (w0 := w0) (M := []) (fun (j : Nat) => [(0, .slice oa a.length ca), (1, .slice ob b.length cb), (12, .int .i64 (a.length : Int)), (13, .int .i64 (j : Int))]) (fun _ => []) (fun j _ => j ≤ a.length ∧ ∀ (i : Nat) x y, i < j → a[i]? = some x → b[i]? = some y → sameD x y = true) (fun j => a.length - j) 0 ⟨rfl, rfl, rfl, rfl, trivial⟩ (st.dr) ⟨by omega, fun i x y h => by omega⟩ ?_
 clear st
 rintro j w ⟨hj, hall⟩ st
 refine sr ?_
 refine vy (y_lss rfl rfl) ?_
 refine et (vk5 0 1 12 13 14 (vc_seq ?_))
 refine vif ?_ ?_
 ·intro hc14
  try simp only [dn] at hc14
  obtain ⟨x, hx⟩ : ∃ x, a[j]? = some x := ⟨_, List.getElem?_eq_getElem (by omega)⟩
  obtain ⟨y, hy⟩ : ∃ y, b[j]? = some y := ⟨_, List.getElem?_eq_getElem (by omega)⟩
  obtain ⟨gb, go, rfl, hgS, hgl, hg⟩ := DcRow.at hA (by omega)
  obtain ⟨fb, fo, rfl, hfS, hfl, hf⟩ := DcRow.at hB (by omega)
  have hc := hg j x hx
  have hd := hf j y hy
  refine kt (vk4 0 1 12 13 (vc_seq (vc_block (sr ?_))))
  refine ym ?_
  refine ya ?_
  refine et (vk5 0 1 5 12 13 (vc_seq ?_))
  refine vc_draw Tryz.mixed [(0, true), (1, true), (2, true), (3, true), (4, true), (5, true), (6, true), (7, true), (8, true), (9, true), (10, true), (11, true), (12, true), (13, true), (14, true), (15, true), (16, true), (17, true), (18, true), (19, true), (20, true), (21, true), (22, true), (23, true)] (fun w => St _ _ _ w) st (by kernel_rfl) (by repeat (first | exact okQ_body | refine okQ_then ?_ | refine okQ_block ?_)) rfl (by kernel_rfl) ?_
  intro w cd; replace st := st.call0 cd; clear cd
  have hS := st
  iterate 2 refine pm hS ?_
  refine vp_take rfl rfl rfl hS (fun w st => y_ia (k := j) rfl rfl underlying22 sizeOf52 rfl (by omega)) ?_
  refine pf0 hS underlying52 sizeOf9 ?_
  refine vp_take rfl rfl rfl hS (fun w st => y_ldc rfl isAgg9 (st.chg.cell (hc 0 _ rfl) (by simp))) ?_
  iterate 2 refine pm hS ?_
  refine vp_take rfl rfl rfl hS (fun w st => y_ia (k := j) rfl rfl underlying22 sizeOf52 rfl (by omega)) ?_
  refine pf0 hS underlying52 sizeOf9 ?_
  refine vp_take rfl rfl rfl hS (fun w st => y_ldc rfl isAgg9 (st.chg.cell (hd 0 _ rfl) (by simp))) ?_
  refine vp_take rfl rfl rfl hS (fun w st => y_nes rfl rfl) ?_
  refine vp_part rfl rfl rfl hS rfl ?_ ?_
  ·intro hg27
   try simp only [dn] at hg27
   iterate 11 refine vp_skip rfl rfl rfl hS ?_
   refine vp_take rfl rfl rfl hS (fun w st => y_pickt rfl rfl) ?_
   refine vp_end (vq_then (vk5 0 1 12 13 39 ?_))
   refine vc_ift rfl ?_
   refine sr ?_
   refine ya ?_
   refine et (vk1 4 (vc_ret (vq_block_ret (vq_then_ret (vq_then_ret (vq_block_ret (vq_then_ret ?_)))))))
   refine vq_ret1 st (.inl rfl) results35 (.tmp rfl) ?_
   refine ⟨_, rfl, ?_⟩
   refine ⟨?_, st.chg⟩
   rw [zipA_no hx hy (by unfold sameD; simp_all)]
  intro hg27
  try simp only [dn] at hg27
  iterate 2 refine pm hS ?_
  refine vp_take rfl rfl rfl hS (fun w st => y_ia (k := j) rfl rfl underlying22 sizeOf52 rfl (by omega)) ?_
  refine vp_take rfl rfl rfl hS (fun w st => y_fa (k := 1) rfl underlying52 rfl rfl sizeOf2 rfl) ?_
  refine vp_take rfl rfl rfl hS (fun w st => y_ldc rfl isAgg2 (st.chg.cell (hc 1 _ rfl) (by simp))) ?_
  iterate 2 refine pm hS ?_
  refine vp_take rfl rfl rfl hS (fun w st => y_ia (k := j) rfl rfl underlying22 sizeOf52 rfl (by omega)) ?_
  refine vp_take rfl rfl rfl hS (fun w st => y_fa (k := 1) rfl underlying52 rfl rfl sizeOf2 rfl) ?_
  refine vp_take rfl rfl rfl hS (fun w st => y_ldc rfl isAgg2 (st.chg.cell (hd 1 _ rfl) (by simp))) ?_
  refine vp_take rfl rfl rfl hS (fun w st => y_nei rfl rfl) ?_
  refine vp_take rfl rfl rfl hS (fun w st => y_pickf rfl rfl) ?_
  refine vp_end (vq_then (vk5 0 1 12 13 39 ?_))
  refine vif ?_ ?_
  ·intro hc39
   try simp only [dn] at hc39
   refine sr ?_
   refine ya ?_
   refine et (vk1 4 (vc_ret (vq_block_ret (vq_then_ret (vq_then_ret (vq_block_ret (vq_then_ret ?_)))))))
   refine vq_ret1 st (.inl rfl) results35 (.tmp rfl) ?_
   refine ⟨_, rfl, ?_⟩
   refine ⟨?_, st.chg⟩
   rw [zipA_no hx hy (by unfold sameD; simp_all)]
  intro hc39
  try simp only [dn] at hc39
  refine vc_code_skip (vq_block (vq_then (vk4 0 1 12 13 (vc_region ?_))))
  refine vy (y_add rfl rfl (by omega : _ = ((j + 1 : Nat) : Int)) (by omega) (by omega)) ?_
  refine ym ?_
  refine vc_end ?_
  refine vq_again (j + 1)  ⟨rfl, rfl, rfl, rfl, trivial⟩ (st.dr) ?_ ?_
  ·exact ⟨by omega, fun i x' y' hi h1 h2 => by
     rcases (by omega : i < j ∨ i = j) with h | rfl
     · exact hall i x' y' h h1 h2
     · rw [hx] at h1; rw [hy] at h2; cases h1; cases h2; (unfold sameD; simp_all)⟩
  omega
 intro hc14
 try simp only [dn] at hc14
 refine vc_exit (vq_then_exit (vq_then_exit (vq_block_exit (vq_then (vc_keep [] trivial (sr ?_))))))
 refine ya ?_
 refine et (vk1 4 (vc_ret ?_))
 refine vq_ret1 st (.inl rfl) results35 (.tmp rfl) ?_
 refine ⟨_, rfl, ?_⟩
 refine ⟨?_, st.chg⟩
 rw [zipA_yes hlen fun i x y hi h1 h2 => hall i x y (by omega) h1 h2]
theorem rdeclared_any (a b : List Dc) (oa ob : Option Addr) (ca cb : Nat) (w : World) (hA : DcRow w S oa a) (hB : DcRow w S ob b) (hn : a.length ≤ 1099511627776) :
    Ret Tryz.prog 18 [.slice oa a.length ca, .slice ob b.length cb] w fun v w' => v = .bool (zipA eqD a b) ∧ Chg [] w w' := by
 refine ret_of [_, _] func18 rfl ntmps18 rfl ?_
 have st := St.init w []
 obtain ⟨w0, rfl⟩ : ∃ w0, w0 = w := ⟨_, rfl⟩
 refine sr ?_
 refine ya ?_
 refine et (vk2 0 1 (vc_seq (sr ?_)))
 refine ym ?_
 refine vy (y_lensl rfl underlying22) ?_
 refine ym ?_
 refine vy (y_lensl rfl underlying22) ?_
 refine vy (y_nei rfl rfl) ?_
 refine et (vk3 0 1 10 ?_)
 refine vif ?_ ?_
 ·intro hc10
  try simp only [dn] at hc10
  refine sr ?_
  refine ya ?_
  refine et (vk1 4 (vc_ret (vq_then_ret ?_)))
  refine vq_ret1 st (.inl rfl) results18 (.tmp rfl) ?_
  refine ⟨_, rfl, ?_⟩
  refine ⟨?_, st.chg⟩
  rw [zipA_len (by omega)]
 intro hc10
 try simp only [dn] at hc10
 have hlen : a.length = b.length := by omega
 refine kt (vk2 0 1 (vc_seq (sr ?_)))
 refine ym ?_
 refine vy (y_lensl rfl underlying22) ?_
 refine ym ?_
 refine et (vk4 0 1 12 13 (vc_block ?_))
 refine vc_loop (w0 := w0) (M := []) (fun (j : Nat) => [(0, .slice oa a.length ca), (1, .slice ob b.length cb), (12, .int .i64 (a.length : Int)), (13, .int .i64 (j : Int))]) (fun _ => []) (fun j _ => j ≤ a.length ∧ ∀ (i : Nat) x y, i < j → a[i]? = some x → b[i]? = some y → eqD x y = true) (fun j => a.length - j) 0 ⟨rfl, rfl, rfl, rfl, trivial⟩ (st.dr) ⟨by omega, fun i x y h => by omega⟩ ?_
 clear st
 rintro j w ⟨hj, hall⟩ st
 refine sr ?_
 refine vy (y_lss rfl rfl) ?_
 refine et (vk5 0 1 12 13 14 (vc_seq ?_))
 refine vif ?_ ?_
 ·intro hc14
  try simp only [dn] at hc14
  obtain ⟨x, hx⟩ : ∃ x, a[j]? = some x := ⟨_, List.getElem?_eq_getElem (by omega)⟩
  obtain ⟨y, hy⟩ : ∃ y, b[j]? = some y := ⟨_, List.getElem?_eq_getElem (by omega)⟩
  obtain ⟨gb, go, rfl, hgS, hgl, hg⟩ := DcRow.at hA (by omega)
  obtain ⟨fb, fo, rfl, hfS, hfl, hf⟩ := DcRow.at hB (by omega)
  have hc := hg j x hx
  have hd := hf j y hy
  refine kt (vk4 0 1 12 13 (vc_seq (vc_block (sr ?_))))
  refine ym ?_
  refine ya ?_
  refine et (vk5 0 1 5 12 13 (vc_seq ?_))
  refine vc_draw Tryz.mixed [(0, true), (1, true), (2, true), (3, true), (4, true), (5, true), (6, true), (7, true), (8, true)] (fun w => St _ _ _ w) st (by kernel_rfl) (by repeat (first | exact okQ_body | refine okQ_then ?_ | refine okQ_block ?_)) rfl (by kernel_rfl) ?_
  intro w cd; replace st := st.call0 cd; clear cd
  have hS := st
  iterate 2 refine pm hS ?_
  refine vp_take rfl rfl rfl hS (fun w st => y_ia (k := j) rfl rfl underlying22 sizeOf52 rfl (by omega)) ?_
  refine vp_take rfl rfl rfl hS (fun w st => y_ldca (dcL x) rfl isAgg52 sizeOf52 rfl (fun i v hi => st.chg.cell (hc i v hi) (by simp))) ?_
  iterate 2 refine pm hS ?_
  refine vp_take rfl rfl rfl hS (fun w st => y_ia (k := j) rfl rfl underlying22 sizeOf52 rfl (by omega)) ?_
  refine vp_take rfl rfl rfl hS (fun w st => y_ldca (dcL y) rfl isAgg52 sizeOf52 rfl (fun i v hi => st.chg.cell (hd i v hi) (by simp))) ?_
  refine vp_take rfl rfl rfl hS (fun w st => y_neD (p := x) (q := y) rfl rfl) ?_
  refine vp_end (vq_then (vk5 0 1 12 13 24 ?_))
  refine vif ?_ ?_
  ·intro hc24
   try simp only [dn] at hc24
   refine sr ?_
   refine ya ?_
   refine et (vk1 4 (vc_ret (vq_block_ret (vq_then_ret (vq_then_ret (vq_block_ret (vq_then_ret ?_)))))))
   refine vq_ret1 st (.inl rfl) results18 (.tmp rfl) ?_
   refine ⟨_, rfl, ?_⟩
   refine ⟨?_, st.chg⟩
   rw [zipA_no hx hy (by simp_all)]
  intro hc24
  try simp only [dn] at hc24
  refine vc_code_skip (vq_block (vq_then (vk4 0 1 12 13 (vc_region ?_))))
  refine vy (y_add rfl rfl (by omega : _ = ((j + 1 : Nat) : Int)) (by omega) (by omega)) ?_
  refine ym ?_
  refine vc_end ?_
  refine vq_again (j + 1)  ⟨rfl, rfl, rfl, rfl, trivial⟩ (st.dr) ?_ ?_
  ·exact ⟨by omega, fun i x' y' hi h1 h2 => by
     rcases (by omega : i < j ∨ i = j) with h | rfl
     · exact hall i x' y' h h1 h2
     · rw [hx] at h1; rw [hy] at h2; cases h1; cases h2; (simp_all)⟩
  omega
 intro hc14
 try simp only [dn] at hc14
 refine vc_exit (vq_then_exit (vq_then_exit (vq_block_exit (vq_then (vc_keep [] trivial (sr ?_))))))
 refine ya ?_
 refine et (vk1 4 (vc_ret ?_))
 refine vq_ret1 st (.inl rfl) results18 (.tmp rfl) ?_
 refine ⟨_, rfl, ?_⟩
 refine ⟨?_, st.chg⟩
 rw [zipA_yes hlen fun i x y hi h1 h2 => hall i x y (by omega) h1 h2]
theorem rsameE_any (e y : Ex) (o o' : Option Addr) (c c' : Nat) (w : World) (hr : ExRow w S o e.kids) (hr' : ExRow w S o' y.kids)
    (hrec : ∀ w, ExRow w S o e.kids → ExRow w S o' y.kids → Ret Tryz.prog 54 [.slice o e.kids.length c, .slice o' y.kids.length c'] w fun v w' => v = .bool (zipA sameE e.kids y.kids) ∧ Chg [] w w') :
  Ret Tryz.prog 65 [.agg (exL e o c).toArray, .agg (exL y o' c').toArray] w fun v w' => v = .bool (sameE e y) ∧ Chg [] w w' := by
 refine ret_of [_, _] func65 rfl ntmps65 rfl ?_
 have st := St.init w []
 obtain ⟨w0, rfl⟩ : ∃ w0, w0 = w := ⟨_, rfl⟩
 refine sr ?_
 refine vc_e (e_bx (l := [_, _, _, _, _, _]) st rfl rfl rfl rfl ?_)
 intro b2 w hb2 st
 refine vc_e (e_bx (l := [_, _, _, _, _, _]) st rfl rfl rfl rfl ?_)
 intro b3 w hb3 st
 refine ya ?_
 refine et (vk2 2 3 (vc_seq (sr ?_)))
 refine vy (y_fa0 rfl underlying60 rfl rfl sizeOf57 rfl) ?_
 refine yl st 1 isAgg57 ?_
 refine vy (y_fa0 rfl underlying60 rfl rfl sizeOf57 rfl) ?_
 refine yl st 0 isAgg57 ?_
 refine vy (y_nei rfl rfl) ?_
 refine vmb ?_ ?_
 intro hg10
 iterate 5 refine vsk ?_
 refine ypt ?_
 refine ym ?_
 iterate 5 refine vsk ?_
 refine ypt ?_
 refine ym ?_
 iterate 5 refine vsk ?_
 refine ypt ?_
 refine et (vk3 2 3 30 ?_)
 refine vc_ift rfl ?_
 refine sr ?_
 refine ya ?_
 refine et (vk1 4 (vc_ret (vq_then_ret ?_)))
 rotate_left
 focus
  intro hg10
  refine yfz 1 underlying60 sizeOf58 ?_
  refine yl st 1 isAgg58 ?_
  refine yfz 1 underlying60 sizeOf58 ?_
  refine yl st 0 isAgg58 ?_
  refine vy (y_nei rfl rfl) ?_
  refine ypf ?_
  refine vmb ?_ ?_
  intro hg17
  iterate 5 refine vsk ?_
  refine ypt ?_
  refine ym ?_
  iterate 5 refine vsk ?_
  refine ypt ?_
  refine et (vk3 2 3 30 ?_)
  refine vc_ift rfl ?_
  refine sr ?_
  refine ya ?_
  refine et (vk1 4 (vc_ret (vq_then_ret ?_)))
  rotate_left
  focus
   intro hg17
   refine yfz 2 underlying60 sizeOf2 ?_
   refine yl st 1 isAgg2 ?_
   refine yfz 2 underlying60 sizeOf2 ?_
   refine yl st 0 isAgg2 ?_
   refine vy (y_nei rfl rfl) ?_
   refine ypf ?_
   refine vmb ?_ ?_
   intro hg24
   iterate 5 refine vsk ?_
   refine ypt ?_
   refine et (vk3 2 3 30 ?_)
   refine vc_ift rfl ?_
   refine sr ?_
   refine ya ?_
   refine et (vk1 4 (vc_ret (vq_then_ret ?_)))
   rotate_left
   focus
    intro hg24
    refine yfz 3 underlying60 sizeOf9 ?_
    refine yl st 1 isAgg9 ?_
    refine yfz 3 underlying60 sizeOf9 ?_
    refine yl st 0 isAgg9 ?_
    refine vy (y_nes rfl rfl) ?_
    refine ypf ?_
    refine et (vk3 2 3 30 ?_)
    refine vif ?_ ?_
    intro hc30
    refine sr ?_
    refine ya ?_
    refine et (vk1 4 (vc_ret (vq_then_ret ?_)))
    rotate_left
    intro hc30
    refine kt (vk2 2 3 (sr ?_))
    refine yfz 4 underlying60 sizeOf54 ?_
    refine yl st 1 isAgg54 ?_
    refine yfz 4 underlying60 sizeOf54 ?_
    refine yl st 0 isAgg54 ?_
    refine vc_e (e_call [_, _] rfl rfl call54 rfl (hrec _ (hr.kept (Same.of_nil st.chg)) (hr'.kept (Same.of_nil st.chg))) ?_)
    rintro _ w ⟨rfl, cw⟩
    replace st := st.call0 cw
    refine ya ?_
    refine et (vk1 4 (vc_ret ?_))
 all_goals
  refine vq_ret1 st (.inl rfl) results65 (.tmp rfl) ?_
  refine ⟨_, rfl, ?_⟩
  refine ⟨?_, st.chg⟩
  rw [sameE_eq]
  first
   | (rw [show decide (e.k = y.k ∧ e.op = y.op ∧ e.wd = y.wd ∧ e.nm = y.nm) = false from by
       simp only [decide_eq_false_iff_not]
       rintro ⟨q1, q2, q3, q4⟩
       simp_all]
      rfl)
   | (rw [show decide (e.k = y.k ∧ e.op = y.op ∧ e.wd = y.wd ∧ e.nm = y.nm) = true from by simp_all, Bool.true_and])
theorem rexprsS_any : ∀ (n : Nat) (a : List Ex), szo a = n → OkEs a → ∀ (b : List Ex) (oa ob : Option Addr) (ca cb : Nat) (w : World), ExRow w S oa a → ExRow w S ob b →
    Ret Tryz.prog 54 [.slice oa a.length ca, .slice ob b.length cb] w fun v w' => v = .bool (zipA sameE a b) ∧ Chg [] w w' := by
 intro n
 refine Nat.strongRecOn n fun n ih => ?_
 intro a hn hok b oa ob ca cb w hA hB
 subst hn
 have hn := hok.1
 refine ret_of [_, _] func54 rfl ntmps54 rfl ?_
 have st := St.init w []
 obtain ⟨w0, rfl⟩ : ∃ w0, w0 = w := ⟨_, rfl⟩
 refine sr ?_
 refine ya ?_
 refine et (vk2 0 1 (vc_seq (sr ?_)))
 refine ym ?_
 refine vy (y_lensl rfl underlying54) ?_
 refine ym ?_
 refine vy (y_lensl rfl underlying54) ?_
 refine vy (y_nei rfl rfl) ?_
 refine et (vk3 0 1 10 ?_)
 refine vif ?_ ?_
 ·intro hc10
  try simp only [dn] at hc10
  refine sr ?_
  refine ya ?_
  refine et (vk1 4 (vc_ret (vq_then_ret ?_)))
  refine vq_ret1 st (.inl rfl) results54 (.tmp rfl) ?_
  refine ⟨_, rfl, ?_⟩
  refine ⟨?_, st.chg⟩
  rw [zipA_len (by omega)]
 intro hc10
 try simp only [dn] at hc10
 have hlen : a.length = b.length := by omega
 refine kt (vk2 0 1 (vc_seq (sr ?_)))
 refine ym ?_
 refine vy (y_lensl rfl underlying54) ?_
 refine ym ?_
 refine et (vk4 0 1 12 13 (vc_block ?_))
 refine vc_loop (w0 := w0) (M := []) (fun (j : Nat) => [(0, .slice oa a.length ca), (1, .slice ob b.length cb), (12, .int .i64 (a.length : Int)), (13, .int .i64 (j : Int))]) (fun _ => []) (fun j _ => j ≤ a.length ∧ ∀ (i : Nat) x y, i < j → a[i]? = some x → b[i]? = some y → sameE x y = true) (fun j => a.length - j) 0 ⟨rfl, rfl, rfl, rfl, trivial⟩ (st.dr) ⟨by omega, fun i x y h => by omega⟩ ?_
 clear st
 rintro j w ⟨hj, hall⟩ st
 refine sr ?_
 refine vy (y_lss rfl rfl) ?_
 refine et (vk5 0 1 12 13 14 (vc_seq ?_))
 refine vif ?_ ?_
 ·intro hc14
  try simp only [dn] at hc14
  obtain ⟨x, hx⟩ : ∃ x, a[j]? = some x := ⟨_, List.getElem?_eq_getElem (by omega)⟩
  obtain ⟨y, hy⟩ : ∃ y, b[j]? = some y := ⟨_, List.getElem?_eq_getElem (by omega)⟩
  obtain ⟨gb, go, rfl, hgS, hgl, hg⟩ := ExRow.at hA (by omega)
  obtain ⟨fb, fo, rfl, hfS, hfl, hf⟩ := ExRow.at hB (by omega)
  obtain ⟨o0, c0, hV0, hr0, hc⟩ := hg j x hx
  obtain ⟨o1, c1, hV1, hr1, hd⟩ := hf j y hy
  have hkx := hok.2 j x hx
  have hz := mem_size hx
  have hz2 : szo x.kids < szo a := by have := szo_kids x; omega
  refine kt (vk4 0 1 12 13 (vc_seq (vc_block (sr ?_))))
  refine ym ?_
  refine ya ?_
  refine et (vk5 0 1 5 12 13 (vc_seq ?_))
  refine vc_draw Tryz.mixed [(0, true), (1, true), (2, true), (3, true), (4, true), (5, true), (6, true), (7, true), (8, false), (9, true)] (fun w => St _ _ _ w) st (by kernel_rfl) (by repeat (first | exact okQ_body | refine okQ_then ?_ | refine okQ_block ?_)) rfl (by kernel_rfl) ?_
  intro w cd; replace st := st.call0 cd; clear cd
  have hS := st
  iterate 2 refine pm hS ?_
  refine vp_take rfl rfl rfl hS (fun w st => y_ia (k := j) rfl rfl underlying54 sizeOf60 rfl (by omega)) ?_
  refine vp_take rfl rfl rfl hS (fun w st => y_ldca (exL x o0 c0) rfl isAgg60 sizeOf60 rfl (fun i v hi => st.chg.cell (hc i v hi) (by simp))) ?_
  iterate 2 refine pm hS ?_
  refine vp_take rfl rfl rfl hS (fun w st => y_ia (k := j) rfl rfl underlying54 sizeOf60 rfl (by omega)) ?_
  refine vp_take rfl rfl rfl hS (fun w st => y_ldca (exL y o1 c1) rfl isAgg60 sizeOf60 rfl (fun i v hi => st.chg.cell (hd i v hi) (by simp))) ?_
  refine vp_do rfl (e_call [_, _] rfl rfl call65 rfl (rsameE_any x y o0 o1 c0 c1 _ (hr0.kept (Same.of_nil st.chg)) (hr1.kept (Same.of_nil st.chg)) (fun w h1 h2 => ih _ hz2 x.kids rfl hkx.kids y.kids _ _ _ _ w h1 h2)) ?_)
  rintro _ w ⟨rfl, cw⟩
  replace st := st.call0 cw
  refine vp_next (by exact st) ?_; intro hS
  refine vp_take rfl rfl rfl hS (fun w st => y_not rfl) ?_
  refine vp_end (vq_then (vk5 0 1 12 13 25 ?_))
  refine vif ?_ ?_
  ·intro hc25
   try simp only [dn] at hc25
   refine sr ?_
   refine ya ?_
   refine et (vk1 4 (vc_ret (vq_block_ret (vq_then_ret (vq_then_ret (vq_block_ret (vq_then_ret ?_)))))))
   refine vq_ret1 st (.inl rfl) results54 (.tmp rfl) ?_
   refine ⟨_, rfl, ?_⟩
   refine ⟨?_, st.chg⟩
   rw [zipA_no hx hy (by assumption)]
  intro hc25
  try simp only [dn] at hc25
  refine vc_code_skip (vq_block (vq_then (vk4 0 1 12 13 (vc_region ?_))))
  refine vy (y_add rfl rfl (by omega : _ = ((j + 1 : Nat) : Int)) (by omega) (by omega)) ?_
  refine ym ?_
  refine vc_end ?_
  refine vq_again (j + 1)  ⟨rfl, rfl, rfl, rfl, trivial⟩ (st.dr) ?_ ?_
  ·exact ⟨by omega, fun i x' y' hi h1 h2 => by
     rcases (by omega : i < j ∨ i = j) with h | rfl
     · exact hall i x' y' h h1 h2
     · rw [hx] at h1; rw [hy] at h2; cases h1; cases h2; assumption⟩
  omega
 intro hc14
 try simp only [dn] at hc14
 refine vc_exit (vq_then_exit (vq_then_exit (vq_block_exit (vq_then (vc_keep [] trivial (sr ?_))))))
 refine ya ?_
 refine et (vk1 4 (vc_ret ?_))
 refine vq_ret1 st (.inl rfl) results54 (.tmp rfl) ?_
 refine ⟨_, rfl, ?_⟩
 refine ⟨?_, st.chg⟩
 rw [zipA_yes hlen fun i x y hi h1 h2 => hall i x y (by omega) h1 h2]
theorem rplaces_any : ∀ (n : Nat) (a : List Ex), szo a = n → OkEs a → ∀ (b : List Ex) (oa ob : Option Addr) (ca cb : Nat) (w : World), ExRow w S oa a → ExRow w S ob b →
    Ret Tryz.prog 37 [.slice oa a.length ca, .slice ob b.length cb] w fun v w' => v = .bool (zipA plE a b) ∧ Chg [] w w' := by
 intro n
 refine Nat.strongRecOn n fun n ih => ?_
 intro a hn hok b oa ob ca cb w hA hB
 subst hn
 have hn := hok.1
 refine ret_of [_, _] func37 rfl ntmps37 rfl ?_
 have st := St.init w []
 obtain ⟨w0, rfl⟩ : ∃ w0, w0 = w := ⟨_, rfl⟩
 refine sr ?_
 refine ya ?_
 refine et (vk2 0 1 (vc_seq (sr ?_)))
 refine ym ?_
 refine vy (y_lensl rfl underlying54) ?_
 refine ym ?_
 refine vy (y_lensl rfl underlying54) ?_
 refine vy (y_nei rfl rfl) ?_
 refine et (vk3 0 1 10 ?_)
 refine vif ?_ ?_
 ·intro hc10
  try simp only [dn] at hc10
  refine sr ?_
  refine ya ?_
  refine et (vk1 4 (vc_ret (vq_then_ret ?_)))
  refine vq_ret1 st (.inl rfl) results37 (.tmp rfl) ?_
  refine ⟨_, rfl, ?_⟩
  refine ⟨?_, st.chg⟩
  rw [zipA_len (by omega)]
 intro hc10
 try simp only [dn] at hc10
 have hlen : a.length = b.length := by omega
 refine kt (vk2 0 1 (vc_seq (sr ?_)))
 refine ym ?_
 refine vy (y_lensl rfl underlying54) ?_
 refine ym ?_
 refine et (vk4 0 1 12 13 (vc_block ?_))
 refine vc_loop (w0 := w0) (M := []) (fun (j : Nat) => [(0, .slice oa a.length ca), (1, .slice ob b.length cb), (12, .int .i64 (a.length : Int)), (13, .int .i64 (j : Int))]) (fun _ => []) (fun j _ => j ≤ a.length ∧ ∀ (i : Nat) x y, i < j → a[i]? = some x → b[i]? = some y → plE x y = true) (fun j => a.length - j) 0 ⟨rfl, rfl, rfl, rfl, trivial⟩ (st.dr) ⟨by omega, fun i x y h => by omega⟩ ?_
 clear st
 rintro j w ⟨hj, hall⟩ st
 refine sr ?_
 refine vy (y_lss rfl rfl) ?_
 refine et (vk5 0 1 12 13 14 (vc_seq ?_))
 refine vif ?_ ?_
 ·intro hc14
  try simp only [dn] at hc14
  obtain ⟨x, hx⟩ : ∃ x, a[j]? = some x := ⟨_, List.getElem?_eq_getElem (by omega)⟩
  obtain ⟨y, hy⟩ : ∃ y, b[j]? = some y := ⟨_, List.getElem?_eq_getElem (by omega)⟩
  obtain ⟨gb, go, rfl, hgS, hgl, hg⟩ := ExRow.at hA (by omega)
  obtain ⟨fb, fo, rfl, hfS, hfl, hf⟩ := ExRow.at hB (by omega)
  obtain ⟨o0, c0, hV0, hr0, hc⟩ := hg j x hx
  obtain ⟨o1, c1, hV1, hr1, hd⟩ := hf j y hy
  have hkx := hok.2 j x hx
  have hz := mem_size hx
  have hz2 : szo x.kids < szo a := by have := szo_kids x; omega
  refine kt (vk4 0 1 12 13 (vc_seq (vc_block (sr ?_))))
  refine ym ?_
  refine ya ?_
  refine et (vk5 0 1 5 12 13 (vc_seq ?_))
  refine vc_draw Tryz.mixed [(0, true), (1, true), (2, true), (3, true), (4, true), (5, true), (6, true), (7, true), (8, true), (9, true), (10, true), (11, true), (12, true), (13, true), (14, true), (15, true), (16, true), (17, true), (18, true), (19, true), (20, true), (21, true), (22, false), (23, true), (24, true)] (fun w => St _ _ _ w) st (by kernel_rfl) (by repeat (first | exact okQ_body | refine okQ_then ?_ | refine okQ_block ?_)) rfl (by kernel_rfl) ?_
  intro w cd; replace st := st.call0 cd; clear cd
  have hS := st
  iterate 2 refine pm hS ?_
  refine vp_take rfl rfl rfl hS (fun w st => y_ia (k := j) rfl rfl underlying54 sizeOf60 rfl (by omega)) ?_
  refine vp_take rfl rfl rfl hS (fun w st => y_fa (k := 5) rfl underlying60 rfl rfl sizeOf3 rfl) ?_
  refine vp_take rfl rfl rfl hS (fun w st => y_ldc rfl isAgg3 (st.chg.cell (hc 5 _ rfl) (by simp))) ?_
  iterate 2 refine pm hS ?_
  refine vp_take rfl rfl rfl hS (fun w st => y_ia (k := j) rfl rfl underlying54 sizeOf60 rfl (by omega)) ?_
  refine vp_take rfl rfl rfl hS (fun w st => y_fa (k := 5) rfl underlying60 rfl rfl sizeOf3 rfl) ?_
  refine vp_take rfl rfl rfl hS (fun w st => y_ldc rfl isAgg3 (st.chg.cell (hd 5 _ rfl) (by simp))) ?_
  refine vp_take rfl rfl rfl hS (fun w st => y_nei rfl rfl) ?_
  refine vp_part rfl rfl rfl hS rfl ?_ ?_
  ·intro hg27
   try simp only [dn] at hg27
   iterate 10 refine vp_skip rfl rfl rfl hS ?_
   refine vp_do rfl (e_skip rfl rfl (vp_next hS (fun hS => ?_)))
   refine vp_skip rfl rfl rfl hS ?_
   refine vp_take rfl rfl rfl hS (fun w st => y_pickt rfl rfl) ?_
   refine vp_end (vq_then (vk5 0 1 12 13 40 ?_))
   refine vc_ift rfl ?_
   refine sr ?_
   refine ya ?_
   refine et (vk1 4 (vc_ret (vq_block_ret (vq_then_ret (vq_then_ret (vq_block_ret (vq_then_ret ?_)))))))
   refine vq_ret1 st (.inl rfl) results37 (.tmp rfl) ?_
   refine ⟨_, rfl, ?_⟩
   refine ⟨?_, st.chg⟩
   rw [zipA_no hx hy (by rw [plE_eq]; simp_all)]
  intro hg27
  try simp only [dn] at hg27
  iterate 2 refine pm hS ?_
  refine vp_take rfl rfl rfl hS (fun w st => y_ia (k := j) rfl rfl underlying54 sizeOf60 rfl (by omega)) ?_
  refine vp_take rfl rfl rfl hS (fun w st => y_fa (k := 4) rfl underlying60 rfl rfl sizeOf54 rfl) ?_
  refine vp_take rfl rfl rfl hS (fun w st => y_ldc rfl isAgg54 (st.chg.cell (hc 4 _ rfl) (by simp))) ?_
  iterate 2 refine pm hS ?_
  refine vp_take rfl rfl rfl hS (fun w st => y_ia (k := j) rfl rfl underlying54 sizeOf60 rfl (by omega)) ?_
  refine vp_take rfl rfl rfl hS (fun w st => y_fa (k := 4) rfl underlying60 rfl rfl sizeOf54 rfl) ?_
  refine vp_take rfl rfl rfl hS (fun w st => y_ldc rfl isAgg54 (st.chg.cell (hd 4 _ rfl) (by simp))) ?_
  refine vp_do rfl (e_call [_, _] rfl rfl call37 rfl (ih _ hz2 x.kids rfl hkx.kids y.kids _ _ _ _ _ (hr0.kept (Same.of_nil st.chg)) (hr1.kept (Same.of_nil st.chg))) ?_)
  rintro _ w ⟨rfl, cw⟩
  replace st := st.call0 cw
  refine vp_next (by exact st) ?_; intro hS
  refine vp_take rfl rfl rfl hS (fun w st => y_not rfl) ?_
  refine vp_take rfl rfl rfl hS (fun w st => y_pickf rfl rfl) ?_
  refine vp_end (vq_then (vk5 0 1 12 13 40 ?_))
  refine vif ?_ ?_
  ·intro hc40
   try simp only [dn] at hc40
   refine sr ?_
   refine ya ?_
   refine et (vk1 4 (vc_ret (vq_block_ret (vq_then_ret (vq_then_ret (vq_block_ret (vq_then_ret ?_)))))))
   refine vq_ret1 st (.inl rfl) results37 (.tmp rfl) ?_
   refine ⟨_, rfl, ?_⟩
   refine ⟨?_, st.chg⟩
   rw [zipA_no hx hy (by rw [plE_eq]; simp_all)]
  intro hc40
  try simp only [dn] at hc40
  refine vc_code_skip (vq_block (vq_then (vk4 0 1 12 13 (vc_region ?_))))
  refine vy (y_add rfl rfl (by omega : _ = ((j + 1 : Nat) : Int)) (by omega) (by omega)) ?_
  refine ym ?_
  refine vc_end ?_
  refine vq_again (j + 1)  ⟨rfl, rfl, rfl, rfl, trivial⟩ (st.dr) ?_ ?_
  ·exact ⟨by omega, fun i x' y' hi h1 h2 => by
     rcases (by omega : i < j ∨ i = j) with h | rfl
     · exact hall i x' y' h h1 h2
     · rw [hx] at h1; rw [hy] at h2; cases h1; cases h2; (rw [plE_eq]; simp_all)⟩
  omega
 intro hc14
 try simp only [dn] at hc14
 refine vc_exit (vq_then_exit (vq_then_exit (vq_block_exit (vq_then (vc_keep [] trivial (sr ?_))))))
 refine ya ?_
 refine et (vk1 4 (vc_ret ?_))
 refine vq_ret1 st (.inl rfl) results37 (.tmp rfl) ?_
 refine ⟨_, rfl, ?_⟩
 refine ⟨?_, st.chg⟩
 rw [zipA_yes hlen fun i x y hi h1 h2 => hall i x y (by omega) h1 h2]
set_option maxHeartbeats 1000000 in
theorem rstmtsS_any : ∀ (n : Nat) (a : List Sm), szo a = n → OkSs a → ∀ (b : List Sm) (oa ob : Option Addr) (ca cb : Nat) (w : World), SmRow w S oa a → SmRow w S ob b →
    Ret Tryz.prog 36 [.slice oa a.length ca, .slice ob b.length cb] w fun v w' => v = .bool (zipA sameS a b) ∧ Chg [] w w' := by
 intro n
 refine Nat.strongRecOn n fun n ih => ?_
 intro a hn hok b oa ob ca cb w hA hB
 subst hn
 have hn := hok.1
 refine ret_of [_, _] func36 rfl ntmps36 rfl ?_
 have st := St.init w []
 obtain ⟨w0, rfl⟩ : ∃ w0, w0 = w := ⟨_, rfl⟩
 refine sr ?_
 refine ya ?_
 refine et (vk2 0 1 (vc_seq (sr ?_)))
 refine ym ?_
 refine vy (y_lensl rfl underlying48) ?_
 refine ym ?_
 refine vy (y_lensl rfl underlying48) ?_
 refine vy (y_nei rfl rfl) ?_
 refine et (vk3 0 1 12 ?_)
 refine vif ?_ ?_
 ·intro hc12
  try simp only [dn] at hc12
  refine sr ?_
  refine ya ?_
  refine et (vk1 4 (vc_ret (vq_then_ret ?_)))
  refine vq_ret1 st (.inl rfl) results36 (.tmp rfl) ?_
  refine ⟨_, rfl, ?_⟩
  refine ⟨?_, st.chg⟩
  rw [zipA_len (by omega)]
 intro hc12
 try simp only [dn] at hc12
 have hlen : a.length = b.length := by omega
 refine kt (vk2 0 1 (vc_seq (sr ?_)))
 refine ym ?_
 refine vy (y_lensl rfl underlying48) ?_
 refine ym ?_
 refine et (vk4 0 1 14 15 (vc_block ?_))
 refine vc_loop (w0 := w0) (M := []) (fun (j : Nat) => [(0, .slice oa a.length ca), (1, .slice ob b.length cb), (14, .int .i64 (a.length : Int)), (15, .int .i64 (j : Int))]) (fun _ => []) (fun j _ => j ≤ a.length ∧ ∀ (i : Nat) x y, i < j → a[i]? = some x → b[i]? = some y → sameS x y = true) (fun j => a.length - j) 0 ⟨rfl, rfl, rfl, rfl, trivial⟩ (st.dr) ⟨by omega, fun i x y h => by omega⟩ ?_
 clear st
 rintro j w ⟨hj, hall⟩ st
 refine sr ?_
 refine vy (y_lss rfl rfl) ?_
 refine et (vk5 0 1 14 15 16 (vc_seq ?_))
 refine vif ?_ ?_
 ·intro hc16
  try simp only [dn] at hc16
  obtain ⟨x, hx⟩ : ∃ x, a[j]? = some x := ⟨_, List.getElem?_eq_getElem (by omega)⟩
  obtain ⟨y, hy⟩ : ∃ y, b[j]? = some y := ⟨_, List.getElem?_eq_getElem (by omega)⟩
  obtain ⟨gb, go, rfl, hgS, hgl, hg⟩ := SmRow.at hA (by omega)
  obtain ⟨fb, fo, rfl, hfS, hfl, hf⟩ := SmRow.at hB (by omega)
  obtain ⟨oe, obb, ol, ce, cbb, cl, hsV, hse, hsb, hsl, hc⟩ := hg j x hx
  obtain ⟨oe', obb', ol', ce', cbb', cl', hsV', hse', hsb', hsl', hd⟩ := hf j y hy
  have hkx := hok.2 j x hx
  have hz := mem_size hx
  have hB2 : szo x.body < szo a := by have : szo x.body < szo x := by cases x; exact sm_size.1
                                      omega
  have hL2 : szo x.els < szo a := by have : szo x.els < szo x := by cases x; exact sm_size.2
                                     omega
  refine kt (vk4 0 1 14 15 (vc_seq (vc_block (sr ?_))))
  refine ym ?_
  refine ya ?_
  refine et (vk5 0 1 5 14 15 ?_)
  refine vc_cut (w0 := w0) (M := []) (fun (z : Nat × Nat) => [(0, .slice (some ⟨gb, go, none⟩) a.length ca), (1, .slice (some ⟨fb, fo, none⟩) b.length cb), (6, .pointer (some ⟨z.1, 0, none⟩)), (7, .pointer (some ⟨z.2, 0, none⟩)), (14, .int .i64 (a.length : Int)), (15, .int .i64 (j : Int))]) (fun z => [.blk z.1 (.cells [.int .u8 x.k, str x.nm, str x.other, .slice oe x.e.length ce, .slice obb x.body.length cbb, .slice ol x.els.length cl, .int .i64 x.a].toArray 56 (0, 0)), .blk z.2 (.cells [.int .u8 y.k, str y.nm, str y.other, .slice oe' y.e.length ce', .slice obb' y.body.length cbb', .slice ol' y.els.length cl', .int .i64 y.a].toArray 56 (0, 0))]) (fun _ _ => True) ?_ ?_
  ·refine vd_draw Tryz.mixed (.take 0 (.take 1 (.take 2 (.take 3 (.take 4 (.take 5 (.take 6 (.take 7 (.two 8 9 (.one 9 (.one 10 (.one 11 .done))) (.one 8 (.one 10 (.one 11 .done)))))))))))) (fun w => St _ _ _ w) st (by kernel_rfl) (by repeat (first | exact okQ_body | refine okQ_then ?_ | refine okQ_block ?_)) rfl (by kernel_rfl) ?_
   intro w cd; replace st := st.call0 cd; clear cd
   have hS := st
   iterate 2 refine dm hS ?_
   refine vd_take rfl rfl rfl hS (fun w st => y_ia (k := j) rfl rfl underlying48 sizeOf56 rfl (by omega)) ?_
   refine vd_take rfl rfl rfl hS (fun w st => y_ldca (smL x oe obb ol ce cbb cl) rfl isAgg56 sizeOf56 rfl (fun i v hi => st.chg.cell (hc i v hi) (by simp))) ?_
   iterate 2 refine dm hS ?_
   refine vd_take rfl rfl rfl hS (fun w st => y_ia (k := j) rfl rfl underlying48 sizeOf56 rfl (by omega)) ?_
   refine vd_take rfl rfl rfl hS (fun w st => y_ldca (smL y oe' obb' ol' ce' cbb' cl') rfl isAgg56 sizeOf56 rfl (fun i v hi => st.chg.cell (hd i v hi) (by simp))) ?_
   refine vd_two rfl rfl ?_ ?_
   ·refine (e_al (l := [_, _, _, _, _, _, _]) st rfl rfl zeroValue56 rfl ?_)
    intro b6 w hb6 st
    refine vd_next st.dr ?_; intro hS
    refine vd_do rfl (e_al (l := [_, _, _, _, _, _, _]) st rfl rfl zeroValue56 rfl ?_)
    intro b7 w hb7 st
    refine vd_next st.dr ?_; intro hS
    refine vd_do rfl (e_sts (vs := [_, _, _, _, _, _, _]) st 1 rfl rfl rfl rfl rfl sizeOf56 rfl rfl (by (right; assumption)) ?_)
    intro w st; dsimp only [setNth, wr] at st
    refine vd_next st.dr ?_; intro hS
    refine vd_do rfl (e_sts (vs := [_, _, _, _, _, _, _]) st 0 rfl rfl rfl rfl rfl sizeOf56 rfl rfl (by (right; assumption)) ?_)
    intro w st; dsimp only [setNth, wr] at st
    refine vd_next st.dr ?_; intro hS
    refine vd_end ?_
    refine vq_meet (b6, b7) ⟨rfl, rfl, rfl, rfl, rfl, rfl, trivial⟩ (st.pick [1, 0] rfl (by decide)) ?_
    ·trivial
   refine (e_al (l := [_, _, _, _, _, _, _]) st rfl rfl zeroValue56 rfl ?_)
   intro b7 w hb7 st
   refine vd_next st.dr ?_; intro hS
   refine vd_do rfl (e_al (l := [_, _, _, _, _, _, _]) st rfl rfl zeroValue56 rfl ?_)
   intro b6 w hb6 st
   refine vd_next st.dr ?_; intro hS
   refine vd_do rfl (e_sts (vs := [_, _, _, _, _, _, _]) st 0 rfl rfl rfl rfl rfl sizeOf56 rfl rfl (by (right; assumption)) ?_)
   intro w st; dsimp only [setNth, wr] at st
   refine vd_next st.dr ?_; intro hS
   refine vd_do rfl (e_sts (vs := [_, _, _, _, _, _, _]) st 1 rfl rfl rfl rfl rfl sizeOf56 rfl rfl (by (right; assumption)) ?_)
   intro w st; dsimp only [setNth, wr] at st
   refine vd_next st.dr ?_; intro hS
   refine vd_end ?_
   refine vq_meet (b6, b7) ⟨rfl, rfl, rfl, rfl, rfl, rfl, trivial⟩ st ?_
   ·trivial
  clear st
  rintro ⟨b6, b7⟩ w - st
  dsimp only at *
  refine sr ?_
  refine vy (y_fa0 rfl underlying56 rfl rfl sizeOf53 rfl) ?_
  refine yl st 0 isAgg53 ?_
  refine vy (y_fa0 rfl underlying56 rfl rfl sizeOf53 rfl) ?_
  refine yl st 1 isAgg53 ?_
  refine vy (y_nei rfl rfl) ?_
  refine vmb ?_ ?_
  ·intro hg31
   try simp only [dn] at hg31
   iterate 5 refine vsk ?_
   refine ypt ?_
   refine ym ?_
   iterate 5 refine vsk ?_
   refine ypt ?_
   refine ym ?_
   iterate 6 refine vsk ?_
   refine ypt ?_
   refine ym ?_
   iterate 6 refine vsk ?_
   refine ypt ?_
   refine ym ?_
   iterate 6 refine vsk ?_
   refine ypt ?_
   refine et (vk5 0 1 14 15 68 ?_)
   refine vc_ift rfl ?_
   refine sr ?_
   refine ya ?_
   refine et (vk1 4 (vc_ret (vq_block_ret (vq_then_ret (vq_then_ret (vq_block_ret (vq_then_ret ?_)))))))
   refine vq_ret1 st (.inl rfl) results36 (.tmp rfl) ?_
   refine ⟨_, rfl, ?_⟩
   refine ⟨?_, st.chg⟩
   rw [zipA_no hx hy (by rw [sameS_eq]; clear st; simp_all)]
  intro hg31
  try simp only [dn] at hg31
  refine yfz 1 underlying56 sizeOf9 ?_
  refine yl st 0 isAgg9 ?_
  refine yfz 1 underlying56 sizeOf9 ?_
  refine yl st 1 isAgg9 ?_
  refine vy (y_nes rfl rfl) ?_
  refine ypf ?_
  refine vmb ?_ ?_
  ·intro hg38
   try simp only [dn] at hg38
   iterate 5 refine vsk ?_
   refine ypt ?_
   refine ym ?_
   iterate 6 refine vsk ?_
   refine ypt ?_
   refine ym ?_
   iterate 6 refine vsk ?_
   refine ypt ?_
   refine ym ?_
   iterate 6 refine vsk ?_
   refine ypt ?_
   refine et (vk5 0 1 14 15 68 ?_)
   refine vc_ift rfl ?_
   refine sr ?_
   refine ya ?_
   refine et (vk1 4 (vc_ret (vq_block_ret (vq_then_ret (vq_then_ret (vq_block_ret (vq_then_ret ?_)))))))
   refine vq_ret1 st (.inl rfl) results36 (.tmp rfl) ?_
   refine ⟨_, rfl, ?_⟩
   refine ⟨?_, st.chg⟩
   rw [zipA_no hx hy (by rw [sameS_eq]; clear st; simp_all)]
  intro hg38
  try simp only [dn] at hg38
  refine yfz 2 underlying56 sizeOf9 ?_
  refine yl st 0 isAgg9 ?_
  refine yfz 2 underlying56 sizeOf9 ?_
  refine yl st 1 isAgg9 ?_
  refine vy (y_nes rfl rfl) ?_
  refine ypf ?_
  refine vmb ?_ ?_
  ·intro hg45
   try simp only [dn] at hg45
   iterate 6 refine vsk ?_
   refine ypt ?_
   refine ym ?_
   iterate 6 refine vsk ?_
   refine ypt ?_
   refine ym ?_
   iterate 6 refine vsk ?_
   refine ypt ?_
   refine et (vk5 0 1 14 15 68 ?_)
   refine vc_ift rfl ?_
   refine sr ?_
   refine ya ?_
   refine et (vk1 4 (vc_ret (vq_block_ret (vq_then_ret (vq_then_ret (vq_block_ret (vq_then_ret ?_)))))))
   refine vq_ret1 st (.inl rfl) results36 (.tmp rfl) ?_
   refine ⟨_, rfl, ?_⟩
   refine ⟨?_, st.chg⟩
   rw [zipA_no hx hy (by rw [sameS_eq]; clear st; simp_all)]
  intro hg45
  try simp only [dn] at hg45
  refine yfz 3 underlying56 sizeOf54 ?_
  refine yl st 0 isAgg54 ?_
  refine yfz 3 underlying56 sizeOf54 ?_
  refine yl st 1 isAgg54 ?_
  refine vc_e (e_call [_, _] rfl rfl call54 rfl (rexprsS_any _ x.e rfl hkx.e y.e _ _ _ _ _ (hse.kept (Same.of_nil st.chg)) (hse'.kept (Same.of_nil st.chg))) ?_)
  rintro _ w ⟨rfl, cw⟩
  replace st := st.call0 cw
  refine vy (y_not rfl) ?_
  refine ypf ?_
  refine vmb ?_ ?_
  ·intro hg53
   try simp only [dn] at hg53
   iterate 6 refine vsk ?_
   refine ypt ?_
   refine ym ?_
   iterate 6 refine vsk ?_
   refine ypt ?_
   refine et (vk5 0 1 14 15 68 ?_)
   refine vc_ift rfl ?_
   refine sr ?_
   refine ya ?_
   refine et (vk1 4 (vc_ret (vq_block_ret (vq_then_ret (vq_then_ret (vq_block_ret (vq_then_ret ?_)))))))
   refine vq_ret1 st (.inl rfl) results36 (.tmp rfl) ?_
   refine ⟨_, rfl, ?_⟩
   refine ⟨?_, st.chg⟩
   rw [zipA_no hx hy (by rw [sameS_eq]; clear st; simp_all)]
  intro hg53
  try simp only [dn] at hg53
  refine yfz 4 underlying56 sizeOf48 ?_
  refine yl st 0 isAgg48 ?_
  refine yfz 4 underlying56 sizeOf48 ?_
  refine yl st 1 isAgg48 ?_
  refine vc_e (e_call [_, _] rfl rfl call36 rfl (ih _ hB2 x.body rfl hkx.body y.body _ _ _ _ _ (hsb.kept (Same.of_nil st.chg)) (hsb'.kept (Same.of_nil st.chg))) ?_)
  rintro _ w ⟨rfl, cw⟩
  replace st := st.call0 cw
  refine vy (y_not rfl) ?_
  refine ypf ?_
  refine vmb ?_ ?_
  ·intro hg61
   try simp only [dn] at hg61
   iterate 6 refine vsk ?_
   refine ypt ?_
   refine et (vk5 0 1 14 15 68 ?_)
   refine vc_ift rfl ?_
   refine sr ?_
   refine ya ?_
   refine et (vk1 4 (vc_ret (vq_block_ret (vq_then_ret (vq_then_ret (vq_block_ret (vq_then_ret ?_)))))))
   refine vq_ret1 st (.inl rfl) results36 (.tmp rfl) ?_
   refine ⟨_, rfl, ?_⟩
   refine ⟨?_, st.chg⟩
   rw [zipA_no hx hy (by rw [sameS_eq]; clear st; simp_all)]
  intro hg61
  try simp only [dn] at hg61
  refine yfz 5 underlying56 sizeOf48 ?_
  refine yl st 0 isAgg48 ?_
  refine yfz 5 underlying56 sizeOf48 ?_
  refine yl st 1 isAgg48 ?_
  refine vc_e (e_call [_, _] rfl rfl call36 rfl (ih _ hL2 x.els rfl hkx.els y.els _ _ _ _ _ (hsl.kept (Same.of_nil st.chg)) (hsl'.kept (Same.of_nil st.chg))) ?_)
  rintro _ w ⟨rfl, cw⟩
  replace st := st.call0 cw
  refine vy (y_not rfl) ?_
  refine ypf ?_
  refine et (vk5 0 1 14 15 68 ?_)
  refine vif ?_ ?_
  ·intro hc68
   try simp only [dn] at hc68
   refine sr ?_
   refine ya ?_
   refine et (vk1 4 (vc_ret (vq_block_ret (vq_then_ret (vq_then_ret (vq_block_ret (vq_then_ret ?_)))))))
   refine vq_ret1 st (.inl rfl) results36 (.tmp rfl) ?_
   refine ⟨_, rfl, ?_⟩
   refine ⟨?_, st.chg⟩
   rw [zipA_no hx hy (by rw [sameS_eq]; clear st; simp_all)]
  intro hc68
  try simp only [dn] at hc68
  refine vc_code_skip (vq_block (vq_then (vk4 0 1 14 15 (vc_region ?_))))
  refine vy (y_add rfl rfl (by omega : _ = ((j + 1 : Nat) : Int)) (by omega) (by omega)) ?_
  refine ym ?_
  refine vc_end ?_
  refine vq_again (j + 1)  ⟨rfl, rfl, rfl, rfl, trivial⟩ (st.dr) ?_ ?_
  ·exact ⟨by omega, fun i x' y' hi h1 h2 => by
     rcases (by omega : i < j ∨ i = j) with h | rfl
     · exact hall i x' y' h h1 h2
     · rw [hx] at h1; rw [hy] at h2; cases h1; cases h2; (rw [sameS_eq]; clear st; simp_all)⟩
  omega
 intro hc16
 try simp only [dn] at hc16
 refine vc_exit (vq_then_exit (vq_then_exit (vq_block_exit (vq_then (vc_keep [] trivial (sr ?_))))))
 refine ya ?_
 refine et (vk1 4 (vc_ret ?_))
 refine vq_ret1 st (.inl rfl) results36 (.tmp rfl) ?_
 refine ⟨_, rfl, ?_⟩
 refine ⟨?_, st.chg⟩
 rw [zipA_yes hlen fun i x y hi h1 h2 => hall i x y (by omega) h1 h2]
set_option maxHeartbeats 1000000 in
theorem rplacesS_any : ∀ (n : Nat) (a : List Sm), szo a = n → OkSs a → ∀ (b : List Sm) (oa ob : Option Addr) (ca cb : Nat) (w : World), SmRow w S oa a → SmRow w S ob b →
    Ret Tryz.prog 19 [.slice oa a.length ca, .slice ob b.length cb] w fun v w' => v = .bool (zipA plS a b) ∧ Chg [] w w' := by
 intro n
 refine Nat.strongRecOn n fun n ih => ?_
 intro a hn hok b oa ob ca cb w hA hB
 subst hn
 have hn := hok.1
 refine ret_of [_, _] func19 rfl ntmps19 rfl ?_
 have st := St.init w []
 obtain ⟨w0, rfl⟩ : ∃ w0, w0 = w := ⟨_, rfl⟩
 refine sr ?_
 refine ya ?_
 refine et (vk2 0 1 (vc_seq (sr ?_)))
 refine ym ?_
 refine vy (y_lensl rfl underlying48) ?_
 refine ym ?_
 refine vy (y_lensl rfl underlying48) ?_
 refine vy (y_nei rfl rfl) ?_
 refine et (vk3 0 1 10 ?_)
 refine vif ?_ ?_
 ·intro hc10
  try simp only [dn] at hc10
  refine sr ?_
  refine ya ?_
  refine et (vk1 4 (vc_ret (vq_then_ret ?_)))
  refine vq_ret1 st (.inl rfl) results19 (.tmp rfl) ?_
  refine ⟨_, rfl, ?_⟩
  refine ⟨?_, st.chg⟩
  rw [zipA_len (by omega)]
 intro hc10
 try simp only [dn] at hc10
 have hlen : a.length = b.length := by omega
 refine kt (vk2 0 1 (vc_seq (sr ?_)))
 refine ym ?_
 refine vy (y_lensl rfl underlying48) ?_
 refine ym ?_
 refine et (vk4 0 1 12 13 (vc_block ?_))
 refine vc_loop (w0 := w0) (M := []) (fun (j : Nat) => [(0, .slice oa a.length ca), (1, .slice ob b.length cb), (12, .int .i64 (a.length : Int)), (13, .int .i64 (j : Int))]) (fun _ => []) (fun j _ => j ≤ a.length ∧ ∀ (i : Nat) x y, i < j → a[i]? = some x → b[i]? = some y → plS x y = true) (fun j => a.length - j) 0 ⟨rfl, rfl, rfl, rfl, trivial⟩ (st.dr) ⟨by omega, fun i x y h => by omega⟩ ?_
 clear st
 rintro j w ⟨hj, hall⟩ st
 refine sr ?_
 refine vy (y_lss rfl rfl) ?_
 refine et (vk5 0 1 12 13 14 (vc_seq ?_))
 refine vif ?_ ?_
 ·intro hc14
  try simp only [dn] at hc14
  obtain ⟨x, hx⟩ : ∃ x, a[j]? = some x := ⟨_, List.getElem?_eq_getElem (by omega)⟩
  obtain ⟨y, hy⟩ : ∃ y, b[j]? = some y := ⟨_, List.getElem?_eq_getElem (by omega)⟩
  obtain ⟨gb, go, rfl, hgS, hgl, hg⟩ := SmRow.at hA (by omega)
  obtain ⟨fb, fo, rfl, hfS, hfl, hf⟩ := SmRow.at hB (by omega)
  obtain ⟨oe, obb, ol, ce, cbb, cl, hsV, hse, hsb, hsl, hc⟩ := hg j x hx
  obtain ⟨oe', obb', ol', ce', cbb', cl', hsV', hse', hsb', hsl', hd⟩ := hf j y hy
  have hkx := hok.2 j x hx
  have hz := mem_size hx
  have hB2 : szo x.body < szo a := by have : szo x.body < szo x := by cases x; exact sm_size.1
                                      omega
  have hL2 : szo x.els < szo a := by have : szo x.els < szo x := by cases x; exact sm_size.2
                                     omega
  refine kt (vk4 0 1 12 13 (vc_seq (vc_block (sr ?_))))
  refine ym ?_
  refine ya ?_
  refine et (vk5 0 1 5 12 13 (vc_seq ?_))
  refine vc_draw Tryz.mixed [(0, true), (1, true), (2, true), (3, true), (4, true), (5, true), (6, true), (7, true), (8, true), (9, true), (10, true), (11, true), (12, true), (13, true), (14, true), (15, true), (16, true), (17, true), (18, true), (19, true), (20, true), (21, true), (22, false), (23, true), (24, true), (25, true), (26, true), (27, true), (28, true), (29, true), (30, true), (31, true), (32, true), (33, true), (34, true), (35, true), (36, false), (37, true), (38, true), (39, true), (40, true), (41, true), (42, true), (43, true), (44, true), (45, true), (46, true), (47, true), (48, true), (49, true), (50, false), (51, true), (52, true)] (fun w => St _ _ _ w) st (by kernel_rfl) (by repeat (first | exact okQ_body | refine okQ_then ?_ | refine okQ_block ?_)) rfl (by kernel_rfl) ?_
  intro w cd; replace st := st.call0 cd; clear cd
  have hS := st
  iterate 2 refine pm hS ?_
  refine vp_take rfl rfl rfl hS (fun w st => y_ia (k := j) rfl rfl underlying48 sizeOf56 rfl (by omega)) ?_
  refine vp_take rfl rfl rfl hS (fun w st => y_fa (k := 6) rfl underlying56 rfl rfl sizeOf3 rfl) ?_
  refine vp_take rfl rfl rfl hS (fun w st => y_ldc rfl isAgg3 (st.chg.cell (hc 6 _ rfl) (by simp))) ?_
  iterate 2 refine pm hS ?_
  refine vp_take rfl rfl rfl hS (fun w st => y_ia (k := j) rfl rfl underlying48 sizeOf56 rfl (by omega)) ?_
  refine vp_take rfl rfl rfl hS (fun w st => y_fa (k := 6) rfl underlying56 rfl rfl sizeOf3 rfl) ?_
  refine vp_take rfl rfl rfl hS (fun w st => y_ldc rfl isAgg3 (st.chg.cell (hd 6 _ rfl) (by simp))) ?_
  refine vp_take rfl rfl rfl hS (fun w st => y_nei rfl rfl) ?_
  refine vp_part rfl rfl rfl hS rfl ?_ ?_
  ·intro hg27
   try simp only [dn] at hg27
   iterate 10 refine vp_skip rfl rfl rfl hS ?_
   refine vp_do rfl (e_skip rfl rfl (vp_next hS (fun hS => ?_)))
   refine vp_skip rfl rfl rfl hS ?_
   refine vp_take rfl rfl rfl hS (fun w st => y_pickt rfl rfl) ?_
   refine pm hS ?_
   iterate 10 refine vp_skip rfl rfl rfl hS ?_
   refine vp_do rfl (e_skip rfl rfl (vp_next hS (fun hS => ?_)))
   refine vp_skip rfl rfl rfl hS ?_
   refine vp_take rfl rfl rfl hS (fun w st => y_pickt rfl rfl) ?_
   refine pm hS ?_
   iterate 10 refine vp_skip rfl rfl rfl hS ?_
   refine vp_do rfl (e_skip rfl rfl (vp_next hS (fun hS => ?_)))
   refine vp_skip rfl rfl rfl hS ?_
   refine vp_take rfl rfl rfl hS (fun w st => y_pickt rfl rfl) ?_
   refine vp_end (vq_then (vk5 0 1 12 13 68 ?_))
   refine vc_ift rfl ?_
   refine sr ?_
   refine ya ?_
   refine et (vk1 4 (vc_ret (vq_block_ret (vq_then_ret (vq_then_ret (vq_block_ret (vq_then_ret ?_)))))))
   refine vq_ret1 st (.inl rfl) results19 (.tmp rfl) ?_
   refine ⟨_, rfl, ?_⟩
   refine ⟨?_, st.chg⟩
   rw [zipA_no hx hy (by rw [plS_eq]; clear st; simp_all)]
  intro hg27
  try simp only [dn] at hg27
  iterate 2 refine pm hS ?_
  refine vp_take rfl rfl rfl hS (fun w st => y_ia (k := j) rfl rfl underlying48 sizeOf56 rfl (by omega)) ?_
  refine vp_take rfl rfl rfl hS (fun w st => y_fa (k := 3) rfl underlying56 rfl rfl sizeOf54 rfl) ?_
  refine vp_take rfl rfl rfl hS (fun w st => y_ldc rfl isAgg54 (st.chg.cell (hc 3 _ rfl) (by simp))) ?_
  iterate 2 refine pm hS ?_
  refine vp_take rfl rfl rfl hS (fun w st => y_ia (k := j) rfl rfl underlying48 sizeOf56 rfl (by omega)) ?_
  refine vp_take rfl rfl rfl hS (fun w st => y_fa (k := 3) rfl underlying56 rfl rfl sizeOf54 rfl) ?_
  refine vp_take rfl rfl rfl hS (fun w st => y_ldc rfl isAgg54 (st.chg.cell (hd 3 _ rfl) (by simp))) ?_
  refine vp_do rfl (e_call [_, _] rfl rfl call37 rfl (rplaces_any _ x.e rfl hkx.e y.e _ _ _ _ _ (hse.kept (Same.of_nil st.chg)) (hse'.kept (Same.of_nil st.chg))) ?_)
  rintro _ w ⟨rfl, cw⟩
  replace st := st.call0 cw
  refine vp_next (by exact st) ?_; intro hS
  refine vp_take rfl rfl rfl hS (fun w st => y_not rfl) ?_
  refine vp_take rfl rfl rfl hS (fun w st => y_pickf rfl rfl) ?_
  refine vp_part rfl rfl rfl hS rfl ?_ ?_
  ·intro hg41
   try simp only [dn] at hg41
   iterate 10 refine vp_skip rfl rfl rfl hS ?_
   refine vp_do rfl (e_skip rfl rfl (vp_next hS (fun hS => ?_)))
   refine vp_skip rfl rfl rfl hS ?_
   refine vp_take rfl rfl rfl hS (fun w st => y_pickt rfl rfl) ?_
   refine pm hS ?_
   iterate 10 refine vp_skip rfl rfl rfl hS ?_
   refine vp_do rfl (e_skip rfl rfl (vp_next hS (fun hS => ?_)))
   refine vp_skip rfl rfl rfl hS ?_
   refine vp_take rfl rfl rfl hS (fun w st => y_pickt rfl rfl) ?_
   refine vp_end (vq_then (vk5 0 1 12 13 68 ?_))
   refine vc_ift rfl ?_
   refine sr ?_
   refine ya ?_
   refine et (vk1 4 (vc_ret (vq_block_ret (vq_then_ret (vq_then_ret (vq_block_ret (vq_then_ret ?_)))))))
   refine vq_ret1 st (.inl rfl) results19 (.tmp rfl) ?_
   refine ⟨_, rfl, ?_⟩
   refine ⟨?_, st.chg⟩
   rw [zipA_no hx hy (by rw [plS_eq]; clear st; simp_all)]
  intro hg41
  try simp only [dn] at hg41
  iterate 2 refine pm hS ?_
  refine vp_take rfl rfl rfl hS (fun w st => y_ia (k := j) rfl rfl underlying48 sizeOf56 rfl (by omega)) ?_
  refine vp_take rfl rfl rfl hS (fun w st => y_fa (k := 4) rfl underlying56 rfl rfl sizeOf48 rfl) ?_
  refine vp_take rfl rfl rfl hS (fun w st => y_ldc rfl isAgg48 (st.chg.cell (hc 4 _ rfl) (by simp))) ?_
  iterate 2 refine pm hS ?_
  refine vp_take rfl rfl rfl hS (fun w st => y_ia (k := j) rfl rfl underlying48 sizeOf56 rfl (by omega)) ?_
  refine vp_take rfl rfl rfl hS (fun w st => y_fa (k := 4) rfl underlying56 rfl rfl sizeOf48 rfl) ?_
  refine vp_take rfl rfl rfl hS (fun w st => y_ldc rfl isAgg48 (st.chg.cell (hd 4 _ rfl) (by simp))) ?_
  refine vp_do rfl (e_call [_, _] rfl rfl call19 rfl (ih _ hB2 x.body rfl hkx.body y.body _ _ _ _ _ (hsb.kept (Same.of_nil st.chg)) (hsb'.kept (Same.of_nil st.chg))) ?_)
  rintro _ w ⟨rfl, cw⟩
  replace st := st.call0 cw
  refine vp_next (by exact st) ?_; intro hS
  refine vp_take rfl rfl rfl hS (fun w st => y_not rfl) ?_
  refine vp_take rfl rfl rfl hS (fun w st => y_pickf rfl rfl) ?_
  refine vp_part rfl rfl rfl hS rfl ?_ ?_
  ·intro hg55
   try simp only [dn] at hg55
   iterate 10 refine vp_skip rfl rfl rfl hS ?_
   refine vp_do rfl (e_skip rfl rfl (vp_next hS (fun hS => ?_)))
   refine vp_skip rfl rfl rfl hS ?_
   refine vp_take rfl rfl rfl hS (fun w st => y_pickt rfl rfl) ?_
   refine vp_end (vq_then (vk5 0 1 12 13 68 ?_))
   refine vc_ift rfl ?_
   refine sr ?_
   refine ya ?_
   refine et (vk1 4 (vc_ret (vq_block_ret (vq_then_ret (vq_then_ret (vq_block_ret (vq_then_ret ?_)))))))
   refine vq_ret1 st (.inl rfl) results19 (.tmp rfl) ?_
   refine ⟨_, rfl, ?_⟩
   refine ⟨?_, st.chg⟩
   rw [zipA_no hx hy (by rw [plS_eq]; clear st; simp_all)]
  intro hg55
  try simp only [dn] at hg55
  iterate 2 refine pm hS ?_
  refine vp_take rfl rfl rfl hS (fun w st => y_ia (k := j) rfl rfl underlying48 sizeOf56 rfl (by omega)) ?_
  refine vp_take rfl rfl rfl hS (fun w st => y_fa (k := 5) rfl underlying56 rfl rfl sizeOf48 rfl) ?_
  refine vp_take rfl rfl rfl hS (fun w st => y_ldc rfl isAgg48 (st.chg.cell (hc 5 _ rfl) (by simp))) ?_
  iterate 2 refine pm hS ?_
  refine vp_take rfl rfl rfl hS (fun w st => y_ia (k := j) rfl rfl underlying48 sizeOf56 rfl (by omega)) ?_
  refine vp_take rfl rfl rfl hS (fun w st => y_fa (k := 5) rfl underlying56 rfl rfl sizeOf48 rfl) ?_
  refine vp_take rfl rfl rfl hS (fun w st => y_ldc rfl isAgg48 (st.chg.cell (hd 5 _ rfl) (by simp))) ?_
  refine vp_do rfl (e_call [_, _] rfl rfl call19 rfl (ih _ hL2 x.els rfl hkx.els y.els _ _ _ _ _ (hsl.kept (Same.of_nil st.chg)) (hsl'.kept (Same.of_nil st.chg))) ?_)
  rintro _ w ⟨rfl, cw⟩
  replace st := st.call0 cw
  refine vp_next (by exact st) ?_; intro hS
  refine vp_take rfl rfl rfl hS (fun w st => y_not rfl) ?_
  refine vp_take rfl rfl rfl hS (fun w st => y_pickf rfl rfl) ?_
  refine vp_end (vq_then (vk5 0 1 12 13 68 ?_))
  refine vif ?_ ?_
  ·intro hc68
   try simp only [dn] at hc68
   refine sr ?_
   refine ya ?_
   refine et (vk1 4 (vc_ret (vq_block_ret (vq_then_ret (vq_then_ret (vq_block_ret (vq_then_ret ?_)))))))
   refine vq_ret1 st (.inl rfl) results19 (.tmp rfl) ?_
   refine ⟨_, rfl, ?_⟩
   refine ⟨?_, st.chg⟩
   rw [zipA_no hx hy (by rw [plS_eq]; clear st; simp_all)]
  intro hc68
  try simp only [dn] at hc68
  refine vc_code_skip (vq_block (vq_then (vk4 0 1 12 13 (vc_region ?_))))
  refine vy (y_add rfl rfl (by omega : _ = ((j + 1 : Nat) : Int)) (by omega) (by omega)) ?_
  refine ym ?_
  refine vc_end ?_
  refine vq_again (j + 1)  ⟨rfl, rfl, rfl, rfl, trivial⟩ (st.dr) ?_ ?_
  ·exact ⟨by omega, fun i x' y' hi h1 h2 => by
     rcases (by omega : i < j ∨ i = j) with h | rfl
     · exact hall i x' y' h h1 h2
     · rw [hx] at h1; rw [hy] at h2; cases h1; cases h2; (rw [plS_eq]; clear st; simp_all)⟩
  omega
 intro hc14
 try simp only [dn] at hc14
 refine vc_exit (vq_then_exit (vq_then_exit (vq_block_exit (vq_then (vc_keep [] trivial (sr ?_))))))
 refine ya ?_
 refine et (vk1 4 (vc_ret ?_))
 refine vq_ret1 st (.inl rfl) results19 (.tmp rfl) ?_
 refine ⟨_, rfl, ?_⟩
 refine ⟨?_, st.chg⟩
 rw [zipA_yes hlen fun i x y hi h1 h2 => hall i x y (by omega) h1 h2]
end
end Go.Proofs.YtggnfanphcaamaaGreatDoor


namespace Go.Proofs.YtggnfanphcaamaaGreatDoor
open Go.RowKit Sx LexS _root_.Go.Proofs.Tryz
section
variable {S : Nat → Prop}
theorem zipA_lenT {α β : Type} {f : α → β → Bool} {a : List α} {b : List β} (h : zipA f a b = true) : a.length = b.length := by
 by_cases h1 : a.length = b.length
 ·exact h1
 ·rw [zipA_len h1] at h; cases h
theorem sameP_len {p q : Pg} (h : sameP p q = true) : p.threads.length = q.threads.length := by
 unfold sameP at h
 simp only [Bool.and_eq_true] at h
 exact zipA_lenT h.2
set_option maxHeartbeats 2000000 in
theorem rsamePg_any (p q : Pg) (hok : OkP p) (os ol ot os' ol' ot' : Option Addr) (cs cl ct cs' cl' ct' : Nat) (w : World) (hSh : DcRow w S os p.shared) (hL : DcRow w S ol p.locks) (hT : ThRow w S ot p.threads) (hSh' : DcRow w S os' q.shared) (hL' : DcRow w S ol' q.locks) (hT' : ThRow w S ot' q.threads) :
    Ret Tryz.prog 17 [.agg (pgL p os ol ot cs cl ct).toArray, .agg (pgL q os' ol' ot' cs' cl' ct').toArray] w fun v w' => v = .bool (sameP p q) ∧ Chg [] w w' := by
 refine ret_of [_, _] func17 rfl ntmps17 rfl ?_
 have st := St.init w []
 obtain ⟨w0, rfl⟩ : ∃ w0, w0 = w := ⟨_, rfl⟩
 have hn1 := hok.1.1
 have hn2 := hok.2.1.1
 have hn3 := hok.2.2.1
 refine sr ?_
 refine vc_e (e_bx (l := [_, _, _]) st rfl rfl rfl rfl ?_)
 intro b2 w hb2 st
 refine vc_e (e_bx (l := [_, _, _]) st rfl rfl rfl rfl ?_)
 intro b3 w hb3 st
 refine ya ?_
 refine et (vk2 2 3 (vc_seq (sr ?_)))
 refine vy (y_fa0 rfl underlying25 rfl rfl sizeOf22 rfl) ?_
 refine yl st 1 isAgg22 ?_
 refine vy (y_fa0 rfl underlying25 rfl rfl sizeOf22 rfl) ?_
 refine yl st 0 isAgg22 ?_
 refine vc_e (e_call [_, _] rfl rfl call35 rfl (rdeclsS_any p.shared q.shared _ _ _ _ _ (RowC.kept hSh (Same.of_nil st.chg)) (RowC.kept hSh' (Same.of_nil st.chg)) (by omega)) ?_)
 rintro _ w ⟨rfl, cw⟩
 replace st := st.call0 cw
 refine vy (y_not rfl) ?_
 refine vmb ?_ ?_
 ·intro hg14
  try simp only [dn] at hg14
  iterate 6 refine vsk ?_
  refine ypt ?_
  refine ym ?_
  iterate 7 refine vsk ?_
  refine ypt ?_
  refine et (vk3 2 3 30 ?_)
  refine vc_ift rfl ?_
  refine sr ?_
  refine ya ?_
  refine et (vk1 4 (vc_ret (vq_then_ret ?_)))
  refine vq_ret1 st (.inl rfl) results17 (.tmp rfl) ?_
  refine ⟨_, rfl, ?_⟩
  refine ⟨?_, st.chg⟩
  clear st
  unfold sameP
  (rw [‹zipA sameD p.shared q.shared = false›]; simp; done)
 intro hg14
 try simp only [dn] at hg14
 refine yfz 1 underlying25 sizeOf22 ?_
 refine yl st 1 isAgg22 ?_
 refine yfz 1 underlying25 sizeOf22 ?_
 refine yl st 0 isAgg22 ?_
 refine vc_e (e_call [_, _] rfl rfl call35 rfl (rdeclsS_any p.locks q.locks _ _ _ _ _ (RowC.kept hL (Same.of_nil st.chg)) (RowC.kept hL' (Same.of_nil st.chg)) (by omega)) ?_)
 rintro _ w ⟨rfl, cw⟩
 replace st := st.call0 cw
 refine vy (y_not rfl) ?_
 refine ypf ?_
 refine vmb ?_ ?_
 ·intro hg22
  try simp only [dn] at hg22
  iterate 7 refine vsk ?_
  refine ypt ?_
  refine et (vk3 2 3 30 ?_)
  refine vc_ift rfl ?_
  refine sr ?_
  refine ya ?_
  refine et (vk1 4 (vc_ret (vq_then_ret ?_)))
  refine vq_ret1 st (.inl rfl) results17 (.tmp rfl) ?_
  refine ⟨_, rfl, ?_⟩
  refine ⟨?_, st.chg⟩
  clear st
  unfold sameP
  (rw [‹zipA sameD p.locks q.locks = false›]; simp; done)
 intro hg22
 try simp only [dn] at hg22
 refine yfz 2 underlying25 sizeOf23 ?_
 refine yl st 1 isAgg23 ?_
 refine vy (y_lensl rfl underlying23) ?_
 refine yfz 2 underlying25 sizeOf23 ?_
 refine yl st 0 isAgg23 ?_
 refine vy (y_lensl rfl underlying23) ?_
 refine vy (y_nei rfl rfl) ?_
 refine ypf ?_
 refine et (vk3 2 3 30 ?_)
 refine vif ?_ ?_
 ·intro hc30
  try simp only [dn] at hc30
  refine sr ?_
  refine ya ?_
  refine et (vk1 4 (vc_ret (vq_then_ret ?_)))
  refine vq_ret1 st (.inl rfl) results17 (.tmp rfl) ?_
  refine ⟨_, rfl, ?_⟩
  refine ⟨?_, st.chg⟩
  clear st
  unfold sameP
  (rw [zipA_len (f := sameT) (by omega)]; simp; done)
 intro hc30
 try simp only [dn] at hc30
 have hlen : p.threads.length = q.threads.length := by omega
 refine kt (vk2 2 3 (vc_seq (sr ?_)))
 refine yfz 2 underlying25 sizeOf23 ?_
 refine yl st 1 isAgg23 ?_
 refine vy (y_lensl rfl underlying23) ?_
 refine ym ?_
 refine et (vk4 2 3 33 34 (vc_block ?_))
 refine vc_loop (w0 := w0) (M := []) (fun (j : Nat) => [(2, .pointer (some ⟨b2, 0, none⟩)), (3, .pointer (some ⟨b3, 0, none⟩)), (33, .int .i64 (p.threads.length : Int)), (34, .int .i64 (j : Int))]) (fun _ => [.blk b2 (.cells (pgL p os ol ot cs cl ct).toArray 25 (0, 0)), .blk b3 (.cells (pgL q os' ol' ot' cs' cl' ct').toArray 25 (0, 0))]) (fun j _ => j ≤ p.threads.length ∧ ∀ (i : Nat) x y, i < j → p.threads[i]? = some x → q.threads[i]? = some y → sameT x y = true) (fun j => p.threads.length - j) 0 ⟨rfl, rfl, rfl, rfl, trivial⟩ (st.pick [1, 0] rfl (by decide)) ⟨by omega, fun i x y h => by omega⟩ ?_
 clear st
 rintro j w ⟨hj, hall⟩ st
 refine sr ?_
 refine vy (y_lss rfl rfl) ?_
 refine et (vk5 2 3 33 34 35 (vc_seq ?_))
 refine vif ?_ ?_
 ·intro hc35
  try simp only [dn] at hc35
  have stK := st
  obtain ⟨x, hx⟩ : ∃ x, p.threads[j]? = some x := ⟨_, List.getElem?_eq_getElem (by omega)⟩
  obtain ⟨y, hy⟩ : ∃ y, q.threads[j]? = some y := ⟨_, List.getElem?_eq_getElem (by omega)⟩
  obtain ⟨gb, go, rfl, hgS, hgl, hg⟩ := ThRow.at hT (by omega)
  obtain ⟨fb, fo, rfl, hfS, hfl, hf⟩ := ThRow.at hT' (by omega)
  obtain ⟨tl, tb, cll, cbb, htl, htb, hc⟩ := hg j x hx
  obtain ⟨ul, ub, dll, dbb, hul, hub, hd⟩ := hf j y hy
  have hkx := hok.2.2.2 j x hx
  have st := stK
  clear stK
  refine kt (vk4 2 3 33 34 (vc_seq (vc_block (sr ?_))))
  refine ym ?_
  refine ya ?_
  refine et (vk5 2 3 5 33 34 ?_)
  refine vc_cut (w0 := w0) (M := []) (fun (z : Nat × Nat) => [(2, .pointer (some ⟨b2, 0, none⟩)), (3, .pointer (some ⟨b3, 0, none⟩)), (6, .pointer (some ⟨z.1, 0, none⟩)), (7, .pointer (some ⟨z.2, 0, none⟩)), (33, .int .i64 (p.threads.length : Int)), (34, .int .i64 (j : Int))]) (fun z => [.blk b2 (.cells (pgL p os ol (some ⟨gb, go, none⟩) cs cl ct).toArray 25 (0, 0)), .blk b3 (.cells (pgL q os' ol' (some ⟨fb, fo, none⟩) cs' cl' ct').toArray 25 (0, 0)), .blk z.1 (.cells (thL x tl tb cll cbb).toArray 50 (0, 0)), .blk z.2 (.cells (thL y ul ub dll dbb).toArray 50 (0, 0))]) (fun _ _ => True) ?_ ?_
  ·refine vd_draw Tryz.mixed (.take 0 (.take 1 (.take 2 (.take 3 (.take 4 (.take 5 (.take 6 (.take 7 (.take 8 (.take 9 (.two 10 11 (.one 11 (.one 12 (.one 13 .done))) (.one 10 (.one 12 (.one 13 .done)))))))))))))) (fun w => St _ _ _ w) st (by kernel_rfl) (by repeat (first | exact okQ_body | refine okQ_then ?_ | refine okQ_block ?_)) rfl (by kernel_rfl) ?_
   intro w cd; replace st := st.call0 cd; clear cd
   have hS := st
   refine dfz hS 2 underlying25 sizeOf23 ?_
   refine dld hS 0 isAgg23 ?_
   refine dm hS ?_
   refine vd_take rfl rfl rfl hS (fun w st => y_ia (k := j) rfl rfl underlying23 sizeOf50 rfl (by omega)) ?_
   refine vd_take rfl rfl rfl hS (fun w st => y_ldca (thL x tl tb cll cbb) rfl isAgg50 sizeOf50 rfl (fun i v hi => st.chg.cell (hc i v hi) (by simp))) ?_
   refine dfz hS 2 underlying25 sizeOf23 ?_
   refine dld hS 1 isAgg23 ?_
   refine dm hS ?_
   refine vd_take rfl rfl rfl hS (fun w st => y_ia (k := j) rfl rfl underlying23 sizeOf50 rfl (by omega)) ?_
   refine vd_take rfl rfl rfl hS (fun w st => y_ldca (thL y ul ub dll dbb) rfl isAgg50 sizeOf50 rfl (fun i v hi => st.chg.cell (hd i v hi) (by simp))) ?_
   refine vd_two rfl rfl ?_ ?_
   ·refine (e_al (l := [_, _, _, _]) st rfl rfl zeroValue50 rfl ?_)
    intro b6 w hb6 st
    refine vd_next st.dr ?_; intro hS
    refine vd_do rfl (e_al (l := [_, _, _, _]) st rfl rfl zeroValue50 rfl ?_)
    intro b7 w hb7 st
    refine vd_next st.dr ?_; intro hS
    refine vd_do rfl (e_sts (vs := [_, _, _, _]) st 1 rfl rfl rfl rfl rfl sizeOf50 rfl rfl (by (right; assumption)) ?_)
    intro w st; dsimp only [setNth, wr] at st
    refine vd_next st.dr ?_; intro hS
    refine vd_do rfl (e_sts (vs := [_, _, _, _]) st 0 rfl rfl rfl rfl rfl sizeOf50 rfl rfl (by (right; assumption)) ?_)
    intro w st; dsimp only [setNth, wr] at st
    refine vd_next st.dr ?_; intro hS
    refine vd_end ?_
    refine vq_meet (b6, b7) ⟨rfl, rfl, rfl, rfl, rfl, rfl, trivial⟩ (st.pick [2, 3, 1, 0] rfl (by decide)) ?_
    ·trivial
   refine (e_al (l := [_, _, _, _]) st rfl rfl zeroValue50 rfl ?_)
   intro b7 w hb7 st
   refine vd_next st.dr ?_; intro hS
   refine vd_do rfl (e_al (l := [_, _, _, _]) st rfl rfl zeroValue50 rfl ?_)
   intro b6 w hb6 st
   refine vd_next st.dr ?_; intro hS
   refine vd_do rfl (e_sts (vs := [_, _, _, _]) st 0 rfl rfl rfl rfl rfl sizeOf50 rfl rfl (by (right; assumption)) ?_)
   intro w st; dsimp only [setNth, wr] at st
   refine vd_next st.dr ?_; intro hS
   refine vd_do rfl (e_sts (vs := [_, _, _, _]) st 1 rfl rfl rfl rfl rfl sizeOf50 rfl rfl (by (right; assumption)) ?_)
   intro w st; dsimp only [setNth, wr] at st
   refine vd_next st.dr ?_; intro hS
   refine vd_end ?_
   refine vq_meet (b6, b7) ⟨rfl, rfl, rfl, rfl, rfl, rfl, trivial⟩ (st.pick [2, 3, 0, 1] rfl (by decide)) ?_
   ·trivial
  clear st
  rintro ⟨b6, b7⟩ w - st
  dsimp only at *
  refine sr ?_
  refine vy (y_fa0 rfl underlying50 rfl rfl sizeOf9 rfl) ?_
  refine yl st 2 isAgg9 ?_
  refine vy (y_fa0 rfl underlying50 rfl rfl sizeOf9 rfl) ?_
  refine yl st 3 isAgg9 ?_
  refine vy (y_nes rfl rfl) ?_
  refine vmb ?_ ?_
  ·intro hg52
   try simp only [dn] at hg52
   iterate 6 refine vsk ?_
   refine ypt ?_
   refine ym ?_
   iterate 6 refine vsk ?_
   refine ypt ?_
   refine et (vk5 2 3 33 34 67 ?_)
   refine vc_ift rfl ?_
   refine sr ?_
   refine ya ?_
   refine et (vk1 4 (vc_ret (vq_block_ret (vq_then_ret (vq_then_ret (vq_block_ret (vq_then_ret ?_)))))))
   refine vq_ret1 st (.inl rfl) results17 (.tmp rfl) ?_
   refine ⟨_, rfl, ?_⟩
   refine ⟨?_, st.chg⟩
   clear st
   unfold sameP
   (rw [zipA_no (f := sameT) hx hy (by unfold sameT; simp_all)]; simp; done)
  intro hg52
  try simp only [dn] at hg52
  refine yfz 1 underlying50 sizeOf22 ?_
  refine yl st 2 isAgg22 ?_
  refine yfz 1 underlying50 sizeOf22 ?_
  refine yl st 3 isAgg22 ?_
  refine vc_e (e_call [_, _] rfl rfl call35 rfl (rdeclsS_any x.locals y.locals _ _ _ _ _ (RowC.kept htl (Same.of_nil st.chg)) (RowC.kept hul (Same.of_nil st.chg)) (by have := hkx.1.1; omega)) ?_)
  rintro _ w ⟨rfl, cw⟩
  replace st := st.call0 cw
  refine vy (y_not rfl) ?_
  refine ypf ?_
  refine vmb ?_ ?_
  ·intro hg60
   try simp only [dn] at hg60
   iterate 6 refine vsk ?_
   refine ypt ?_
   refine et (vk5 2 3 33 34 67 ?_)
   refine vc_ift rfl ?_
   refine sr ?_
   refine ya ?_
   refine et (vk1 4 (vc_ret (vq_block_ret (vq_then_ret (vq_then_ret (vq_block_ret (vq_then_ret ?_)))))))
   refine vq_ret1 st (.inl rfl) results17 (.tmp rfl) ?_
   refine ⟨_, rfl, ?_⟩
   refine ⟨?_, st.chg⟩
   clear st
   unfold sameP
   (rw [zipA_no (f := sameT) hx hy (by unfold sameT; simp_all)]; simp; done)
  intro hg60
  try simp only [dn] at hg60
  refine yfz 2 underlying50 sizeOf48 ?_
  refine yl st 2 isAgg48 ?_
  refine yfz 2 underlying50 sizeOf48 ?_
  refine yl st 3 isAgg48 ?_
  refine vc_e (e_call [_, _] rfl rfl call36 rfl (rstmtsS_any _ x.body rfl hkx.2.1 y.body _ _ _ _ _ (htb.kept (Same.of_nil st.chg)) (hub.kept (Same.of_nil st.chg))) ?_)
  rintro _ w ⟨rfl, cw⟩
  replace st := st.call0 cw
  refine vy (y_not rfl) ?_
  refine ypf ?_
  refine et (vk5 2 3 33 34 67 ?_)
  refine vif ?_ ?_
  ·intro hc67
   try simp only [dn] at hc67
   refine sr ?_
   refine ya ?_
   refine et (vk1 4 (vc_ret (vq_block_ret (vq_then_ret (vq_then_ret (vq_block_ret (vq_then_ret ?_)))))))
   refine vq_ret1 st (.inl rfl) results17 (.tmp rfl) ?_
   refine ⟨_, rfl, ?_⟩
   refine ⟨?_, st.chg⟩
   clear st
   unfold sameP
   (rw [zipA_no (f := sameT) hx hy (by unfold sameT; simp_all)]; simp; done)
  intro hc67
  try simp only [dn] at hc67
  refine vc_code_skip (vq_block (vq_then (vk4 2 3 33 34 (vc_region ?_))))
  refine vy (y_add rfl rfl (by omega : _ = ((j + 1 : Nat) : Int)) (by omega) (by omega)) ?_
  refine ym ?_
  refine vc_end ?_
  refine vq_again (j + 1)  ⟨rfl, rfl, rfl, rfl, trivial⟩ (st.pick [0, 1] rfl (by decide)) ?_ ?_
  ·exact ⟨by omega, fun i x' y' hi h1 h2 => by
     rcases (by omega : i < j ∨ i = j) with h | rfl
     · exact hall i x' y' h h1 h2
     · rw [hx] at h1; rw [hy] at h2; cases h1; cases h2; (unfold sameT; clear st; simp_all)⟩
  omega
 intro hc35
 try simp only [dn] at hc35
 refine vc_exit (vq_then_exit (vq_then_exit (vq_block_exit (vq_then (vc_keep [] trivial (sr ?_))))))
 refine ya ?_
 refine et (vk1 4 (vc_ret ?_))
 refine vq_ret1 st (.inl rfl) results17 (.tmp rfl) ?_
 refine ⟨_, rfl, ?_⟩
 refine ⟨?_, st.chg⟩
 clear st
 unfold sameP
 (rw [‹zipA sameD p.shared q.shared = true›, ‹zipA sameD p.locks q.locks = true›, zipA_yes (by omega) fun i x y hi h1 h2 => hall i x y (by omega) h1 h2]; rfl)
set_option maxHeartbeats 2000000 in
theorem rexactly_any (p q : Pg) (hok : OkP p) (os ol ot os' ol' ot' : Option Addr) (cs cl ct cs' cl' ct' : Nat) (w : World) (hSh : DcRow w S os p.shared) (hL : DcRow w S ol p.locks) (hT : ThRow w S ot p.threads) (hSh' : DcRow w S os' q.shared) (hL' : DcRow w S ol' q.locks) (hT' : ThRow w S ot' q.threads) :
    Ret Tryz.prog 8 [.agg (pgL p os ol ot cs cl ct).toArray, .agg (pgL q os' ol' ot' cs' cl' ct').toArray] w fun v w' => v = .bool (exactP p q) ∧ Chg [] w w' := by
 refine ret_of [_, _] func8 rfl ntmps8 rfl ?_
 have st := St.init w []
 obtain ⟨w0, rfl⟩ : ∃ w0, w0 = w := ⟨_, rfl⟩
 have hn1 := hok.1.1
 have hn2 := hok.2.1.1
 have hn3 := hok.2.2.1
 refine sr ?_
 refine vc_e (e_bx (l := [_, _, _]) st rfl rfl rfl rfl ?_)
 intro b2 w hb2 st
 refine vc_e (e_bx (l := [_, _, _]) st rfl rfl rfl rfl ?_)
 intro b3 w hb3 st
 refine ya ?_
 refine et (vk2 2 3 (vc_seq (sr ?_)))
 refine yla st 1 [_, _, _] isAgg25 sizeOf25 ?_
 refine yla st 0 [_, _, _] isAgg25 sizeOf25 ?_
 refine vc_e (e_call [_, _] rfl rfl call17 rfl (rsamePg_any p q hok _ _ _ _ _ _ _ _ _ _ _ _ _ (RowC.kept hSh (Same.of_nil st.chg)) (RowC.kept hL (Same.of_nil st.chg)) (hT.kept (Same.of_nil st.chg)) (RowC.kept hSh' (Same.of_nil st.chg)) (RowC.kept hL' (Same.of_nil st.chg)) (hT'.kept (Same.of_nil st.chg))) ?_)
 rintro _ w ⟨rfl, cw⟩
 replace st := st.call0 cw
 refine vy (y_not rfl) ?_
 refine vmb ?_ ?_
 ·intro hg12
  try simp only [dn] at hg12
  iterate 6 refine vsk ?_
  refine ypt ?_
  refine ym ?_
  iterate 6 refine vsk ?_
  refine ypt ?_
  refine et (vk3 2 3 27 ?_)
  refine vc_ift rfl ?_
  refine sr ?_
  refine ya ?_
  refine et (vk1 4 (vc_ret (vq_then_ret ?_)))
  refine vq_ret1 st (.inl rfl) results8 (.tmp rfl) ?_
  refine ⟨_, rfl, ?_⟩
  refine ⟨?_, st.chg⟩
  clear st
  unfold exactP
  (rw [‹sameP p q = false›]; simp; done)
 intro hg12
 try simp only [dn] at hg12
 refine vy (y_fa0 rfl underlying25 rfl rfl sizeOf22 rfl) ?_
 refine yl st 1 isAgg22 ?_
 refine vy (y_fa0 rfl underlying25 rfl rfl sizeOf22 rfl) ?_
 refine yl st 0 isAgg22 ?_
 refine vc_e (e_call [_, _] rfl rfl call18 rfl (rdeclared_any p.shared q.shared _ _ _ _ _ (RowC.kept hSh (Same.of_nil st.chg)) (RowC.kept hSh' (Same.of_nil st.chg)) (by omega)) ?_)
 rintro _ w ⟨rfl, cw⟩
 replace st := st.call0 cw
 refine vy (y_not rfl) ?_
 refine ypf ?_
 refine vmb ?_ ?_
 ·intro hg20
  try simp only [dn] at hg20
  iterate 6 refine vsk ?_
  refine ypt ?_
  refine et (vk3 2 3 27 ?_)
  refine vc_ift rfl ?_
  refine sr ?_
  refine ya ?_
  refine et (vk1 4 (vc_ret (vq_then_ret ?_)))
  refine vq_ret1 st (.inl rfl) results8 (.tmp rfl) ?_
  refine ⟨_, rfl, ?_⟩
  refine ⟨?_, st.chg⟩
  clear st
  unfold exactP
  (rw [‹zipA eqD p.shared q.shared = false›]; simp; done)
 intro hg20
 try simp only [dn] at hg20
 refine yfz 1 underlying25 sizeOf22 ?_
 refine yl st 1 isAgg22 ?_
 refine yfz 1 underlying25 sizeOf22 ?_
 refine yl st 0 isAgg22 ?_
 refine vc_e (e_call [_, _] rfl rfl call18 rfl (rdeclared_any p.locks q.locks _ _ _ _ _ (RowC.kept hL (Same.of_nil st.chg)) (RowC.kept hL' (Same.of_nil st.chg)) (by omega)) ?_)
 rintro _ w ⟨rfl, cw⟩
 replace st := st.call0 cw
 refine vy (y_not rfl) ?_
 refine ypf ?_
 refine et (vk3 2 3 27 ?_)
 refine vif ?_ ?_
 ·intro hc27
  try simp only [dn] at hc27
  refine sr ?_
  refine ya ?_
  refine et (vk1 4 (vc_ret (vq_then_ret ?_)))
  refine vq_ret1 st (.inl rfl) results8 (.tmp rfl) ?_
  refine ⟨_, rfl, ?_⟩
  refine ⟨?_, st.chg⟩
  clear st
  unfold exactP
  (rw [‹zipA eqD p.locks q.locks = false›]; simp; done)
 intro hc27
 try simp only [dn] at hc27
 have hsp : sameP p q = true := by assumption
 have hlen := sameP_len hsp
 refine kt (vk2 2 3 (vc_seq (sr ?_)))
 refine yfz 2 underlying25 sizeOf23 ?_
 refine yl st 1 isAgg23 ?_
 refine vy (y_lensl rfl underlying23) ?_
 refine ym ?_
 refine et (vk4 2 3 30 31 (vc_block ?_))
 refine vc_loop (w0 := w0) (M := []) (fun (j : Nat) => [(2, .pointer (some ⟨b2, 0, none⟩)), (3, .pointer (some ⟨b3, 0, none⟩)), (30, .int .i64 (p.threads.length : Int)), (31, .int .i64 (j : Int))]) (fun _ => [.blk b2 (.cells (pgL p os ol ot cs cl ct).toArray 25 (0, 0)), .blk b3 (.cells (pgL q os' ol' ot' cs' cl' ct').toArray 25 (0, 0))]) (fun j _ => j ≤ p.threads.length ∧ ∀ (i : Nat) x y, i < j → p.threads[i]? = some x → q.threads[i]? = some y → exT x y = true) (fun j => p.threads.length - j) 0 ⟨rfl, rfl, rfl, rfl, trivial⟩ (st.pick [1, 0] rfl (by decide)) ⟨by omega, fun i x y h => by omega⟩ ?_
 clear st
 rintro j w ⟨hj, hall⟩ st
 refine sr ?_
 refine vy (y_lss rfl rfl) ?_
 refine et (vk5 2 3 30 31 32 (vc_seq ?_))
 refine vif ?_ ?_
 ·intro hc32
  try simp only [dn] at hc32
  have stK := st
  obtain ⟨x, hx⟩ : ∃ x, p.threads[j]? = some x := ⟨_, List.getElem?_eq_getElem (by omega)⟩
  obtain ⟨y, hy⟩ : ∃ y, q.threads[j]? = some y := ⟨_, List.getElem?_eq_getElem (by omega)⟩
  obtain ⟨gb, go, rfl, hgS, hgl, hg⟩ := ThRow.at hT (by omega)
  obtain ⟨fb, fo, rfl, hfS, hfl, hf⟩ := ThRow.at hT' (by omega)
  obtain ⟨tl, tb, cll, cbb, htl, htb, hc⟩ := hg j x hx
  obtain ⟨ul, ub, dll, dbb, hul, hub, hd⟩ := hf j y hy
  have hkx := hok.2.2.2 j x hx
  have st := stK
  clear stK
  refine kt (vk4 2 3 30 31 (vc_seq (vc_block (sr ?_))))
  refine ym ?_
  refine ya ?_
  refine et (vk5 2 3 5 30 31 ?_)
  refine vc_cut (w0 := w0) (M := []) (fun (z : Nat × Nat) => [(2, .pointer (some ⟨b2, 0, none⟩)), (3, .pointer (some ⟨b3, 0, none⟩)), (6, .pointer (some ⟨z.1, 0, none⟩)), (7, .pointer (some ⟨z.2, 0, none⟩)), (30, .int .i64 (p.threads.length : Int)), (31, .int .i64 (j : Int))]) (fun z => [.blk b2 (.cells (pgL p os ol (some ⟨gb, go, none⟩) cs cl ct).toArray 25 (0, 0)), .blk b3 (.cells (pgL q os' ol' (some ⟨fb, fo, none⟩) cs' cl' ct').toArray 25 (0, 0)), .blk z.1 (.cells (thL x tl tb cll cbb).toArray 50 (0, 0)), .blk z.2 (.cells (thL y ul ub dll dbb).toArray 50 (0, 0))]) (fun _ _ => True) ?_ ?_
  ·refine vd_draw Tryz.mixed (.take 0 (.take 1 (.take 2 (.take 3 (.take 4 (.take 5 (.take 6 (.take 7 (.take 8 (.take 9 (.two 10 11 (.one 11 (.one 12 (.one 13 .done))) (.one 10 (.one 12 (.one 13 .done)))))))))))))) (fun w => St _ _ _ w) st (by kernel_rfl) (by repeat (first | exact okQ_body | refine okQ_then ?_ | refine okQ_block ?_)) rfl (by kernel_rfl) ?_
   intro w cd; replace st := st.call0 cd; clear cd
   have hS := st
   refine dfz hS 2 underlying25 sizeOf23 ?_
   refine dld hS 0 isAgg23 ?_
   refine dm hS ?_
   refine vd_take rfl rfl rfl hS (fun w st => y_ia (k := j) rfl rfl underlying23 sizeOf50 rfl (by omega)) ?_
   refine vd_take rfl rfl rfl hS (fun w st => y_ldca (thL x tl tb cll cbb) rfl isAgg50 sizeOf50 rfl (fun i v hi => st.chg.cell (hc i v hi) (by simp))) ?_
   refine dfz hS 2 underlying25 sizeOf23 ?_
   refine dld hS 1 isAgg23 ?_
   refine dm hS ?_
   refine vd_take rfl rfl rfl hS (fun w st => y_ia (k := j) rfl rfl underlying23 sizeOf50 rfl (by omega)) ?_
   refine vd_take rfl rfl rfl hS (fun w st => y_ldca (thL y ul ub dll dbb) rfl isAgg50 sizeOf50 rfl (fun i v hi => st.chg.cell (hd i v hi) (by simp))) ?_
   refine vd_two rfl rfl ?_ ?_
   ·refine (e_al (l := [_, _, _, _]) st rfl rfl zeroValue50 rfl ?_)
    intro b6 w hb6 st
    refine vd_next st.dr ?_; intro hS
    refine vd_do rfl (e_al (l := [_, _, _, _]) st rfl rfl zeroValue50 rfl ?_)
    intro b7 w hb7 st
    refine vd_next st.dr ?_; intro hS
    refine vd_do rfl (e_sts (vs := [_, _, _, _]) st 1 rfl rfl rfl rfl rfl sizeOf50 rfl rfl (by (right; assumption)) ?_)
    intro w st; dsimp only [setNth, wr] at st
    refine vd_next st.dr ?_; intro hS
    refine vd_do rfl (e_sts (vs := [_, _, _, _]) st 0 rfl rfl rfl rfl rfl sizeOf50 rfl rfl (by (right; assumption)) ?_)
    intro w st; dsimp only [setNth, wr] at st
    refine vd_next st.dr ?_; intro hS
    refine vd_end ?_
    refine vq_meet (b6, b7) ⟨rfl, rfl, rfl, rfl, rfl, rfl, trivial⟩ (st.pick [2, 3, 1, 0] rfl (by decide)) ?_
    ·trivial
   refine (e_al (l := [_, _, _, _]) st rfl rfl zeroValue50 rfl ?_)
   intro b7 w hb7 st
   refine vd_next st.dr ?_; intro hS
   refine vd_do rfl (e_al (l := [_, _, _, _]) st rfl rfl zeroValue50 rfl ?_)
   intro b6 w hb6 st
   refine vd_next st.dr ?_; intro hS
   refine vd_do rfl (e_sts (vs := [_, _, _, _]) st 0 rfl rfl rfl rfl rfl sizeOf50 rfl rfl (by (right; assumption)) ?_)
   intro w st; dsimp only [setNth, wr] at st
   refine vd_next st.dr ?_; intro hS
   refine vd_do rfl (e_sts (vs := [_, _, _, _]) st 1 rfl rfl rfl rfl rfl sizeOf50 rfl rfl (by (right; assumption)) ?_)
   intro w st; dsimp only [setNth, wr] at st
   refine vd_next st.dr ?_; intro hS
   refine vd_end ?_
   refine vq_meet (b6, b7) ⟨rfl, rfl, rfl, rfl, rfl, rfl, trivial⟩ (st.pick [2, 3, 0, 1] rfl (by decide)) ?_
   ·trivial
  clear st
  rintro ⟨b6, b7⟩ w - st
  dsimp only at *
  refine sr ?_
  refine yfz 3 underlying50 sizeOf3 ?_
  refine yl st 2 isAgg3 ?_
  refine yfz 3 underlying50 sizeOf3 ?_
  refine yl st 3 isAgg3 ?_
  refine vy (y_nei rfl rfl) ?_
  refine vmb ?_ ?_
  ·intro hg49
   try simp only [dn] at hg49
   iterate 6 refine vsk ?_
   refine ypt ?_
   refine ym ?_
   iterate 6 refine vsk ?_
   refine ypt ?_
   refine et (vk5 2 3 30 31 64 ?_)
   refine vc_ift rfl ?_
   refine sr ?_
   refine ya ?_
   refine et (vk1 4 (vc_ret (vq_block_ret (vq_then_ret (vq_then_ret (vq_block_ret (vq_then_ret ?_)))))))
   refine vq_ret1 st (.inl rfl) results8 (.tmp rfl) ?_
   refine ⟨_, rfl, ?_⟩
   refine ⟨?_, st.chg⟩
   clear st
   unfold exactP
   (rw [zipA_no (f := exT) hx hy (by unfold exT; simp_all)]; simp; done)
  intro hg49
  try simp only [dn] at hg49
  refine yfz 1 underlying50 sizeOf22 ?_
  refine yl st 2 isAgg22 ?_
  refine yfz 1 underlying50 sizeOf22 ?_
  refine yl st 3 isAgg22 ?_
  refine vc_e (e_call [_, _] rfl rfl call18 rfl (rdeclared_any x.locals y.locals _ _ _ _ _ (RowC.kept htl (Same.of_nil st.chg)) (RowC.kept hul (Same.of_nil st.chg)) (by have := hkx.1.1; omega)) ?_)
  rintro _ w ⟨rfl, cw⟩
  replace st := st.call0 cw
  refine vy (y_not rfl) ?_
  refine ypf ?_
  refine vmb ?_ ?_
  ·intro hg57
   try simp only [dn] at hg57
   iterate 6 refine vsk ?_
   refine ypt ?_
   refine et (vk5 2 3 30 31 64 ?_)
   refine vc_ift rfl ?_
   refine sr ?_
   refine ya ?_
   refine et (vk1 4 (vc_ret (vq_block_ret (vq_then_ret (vq_then_ret (vq_block_ret (vq_then_ret ?_)))))))
   refine vq_ret1 st (.inl rfl) results8 (.tmp rfl) ?_
   refine ⟨_, rfl, ?_⟩
   refine ⟨?_, st.chg⟩
   clear st
   unfold exactP
   (rw [zipA_no (f := exT) hx hy (by unfold exT; simp_all)]; simp; done)
  intro hg57
  try simp only [dn] at hg57
  refine yfz 2 underlying50 sizeOf48 ?_
  refine yl st 2 isAgg48 ?_
  refine yfz 2 underlying50 sizeOf48 ?_
  refine yl st 3 isAgg48 ?_
  refine vc_e (e_call [_, _] rfl rfl call19 rfl (rplacesS_any _ x.body rfl hkx.2.1 y.body _ _ _ _ _ (htb.kept (Same.of_nil st.chg)) (hub.kept (Same.of_nil st.chg))) ?_)
  rintro _ w ⟨rfl, cw⟩
  replace st := st.call0 cw
  refine vy (y_not rfl) ?_
  refine ypf ?_
  refine et (vk5 2 3 30 31 64 ?_)
  refine vif ?_ ?_
  ·intro hc64
   try simp only [dn] at hc64
   refine sr ?_
   refine ya ?_
   refine et (vk1 4 (vc_ret (vq_block_ret (vq_then_ret (vq_then_ret (vq_block_ret (vq_then_ret ?_)))))))
   refine vq_ret1 st (.inl rfl) results8 (.tmp rfl) ?_
   refine ⟨_, rfl, ?_⟩
   refine ⟨?_, st.chg⟩
   clear st
   unfold exactP
   (rw [zipA_no (f := exT) hx hy (by unfold exT; simp_all)]; simp; done)
  intro hc64
  try simp only [dn] at hc64
  refine vc_code_skip (vq_block (vq_then (vk4 2 3 30 31 (vc_region ?_))))
  refine vy (y_add rfl rfl (by omega : _ = ((j + 1 : Nat) : Int)) (by omega) (by omega)) ?_
  refine ym ?_
  refine vc_end ?_
  refine vq_again (j + 1)  ⟨rfl, rfl, rfl, rfl, trivial⟩ (st.pick [0, 1] rfl (by decide)) ?_ ?_
  ·exact ⟨by omega, fun i x' y' hi h1 h2 => by
     rcases (by omega : i < j ∨ i = j) with h | rfl
     · exact hall i x' y' h h1 h2
     · rw [hx] at h1; rw [hy] at h2; cases h1; cases h2; (unfold exT; clear st; simp_all)⟩
  omega
 intro hc32
 try simp only [dn] at hc32
 refine vc_exit (vq_then_exit (vq_then_exit (vq_block_exit (vq_then (vc_keep [] trivial (sr ?_))))))
 refine ya ?_
 refine et (vk1 4 (vc_ret ?_))
 refine vq_ret1 st (.inl rfl) results8 (.tmp rfl) ?_
 refine ⟨_, rfl, ?_⟩
 refine ⟨?_, st.chg⟩
 clear st
 unfold exactP
 (rw [‹sameP p q = true›, ‹zipA eqD p.shared q.shared = true›, ‹zipA eqD p.locks q.locks = true›, zipA_yes hlen fun i x y hi h1 h2 => hall i x y (by omega) h1 h2]; rfl)
end
end Go.Proofs.YtggnfanphcaamaaGreatDoor


namespace Go.Proofs.YtggnfanphcaamaaGreatDoor
open Go.RowKit Sx LexS _root_.Go.Proofs.Tryz
abbrev ExRQ := ExR 60
abbrev SmRQ := SmR 60 56
abbrev PgQ := PgS 60 56 52 50
theorem take_snoc {α : Type} {l : List α} {j : Nat} {x : α} (h : l[j]? = some x) : l.take (j + 1) = l.take j ++ [x] := by
 obtain ⟨hj, e⟩ := List.getElem?_eq_some_iff.1 h
 rw [List.take_succ_eq_append_getElem hj, e]
end Go.Proofs.YtggnfanphcaamaaGreatDoor


namespace Go.Proofs.YtggnfanphcaamaaGreatDoor
open Go.RowKit Sx LexS _root_.Go.Proofs.Tryz
section
variable {n0 : Nat}

set_option maxHeartbeats 1000000 in
theorem pcopyE_any : ∀ (n : Nat) (es : List Ex), szo es = n → OkEs es → ∀ (oa : Option Addr) (cap : Nat) (w : World), ExRow w (· < n0) oa es → n0 ≤ w.heap.size →
    Ret Tryz.prog 38 [.slice oa es.length cap] w fun v w' => ∃ oq cq Sq, v = .slice oq es.length cq ∧ ExRQ w' oq cq es Sq ∧ Nw w.heap.size Sq ∧ Chg [] w w' := by
 intro n
 refine Nat.strongRecOn n fun n ih => ?_
 intro es hn hok oa cap w hr hn0
 subst hn
 have hle := hok.1
 refine ret_of [_] func38 rfl ntmps38 rfl ?_
 have st := St.init w []
 obtain ⟨w0, rfl⟩ : ∃ w0, w0 = w := ⟨_, rfl⟩
 replace st := St.pushR (r := .tree [] (fun w => ExSs 60 w [] [] [])) st (Chg.refl _ _) (holds_of (by simp [ExSs]) (by simp) (fun a b h hk => h.kept hk)) (by simp [Res.at?])
 replace st := st.ownNil 60 6
 refine sr ?_
 refine ya ?_
 refine et (vk1 0 (sr ?_))
 refine ya ?_
 refine et (vk2 0 3 (vc_seq (sr ?_)))
 refine ym ?_
 refine vy (y_lensl rfl underlying54) ?_
 refine ym ?_
 refine et (vk4 3 6 7 8 (vc_block ?_))
 refine vc_loop (w0 := w0) (M := []) (fun (y : Nat × Option Addr × Nat × List Value × List Nat) => [(3, .slice y.2.1 y.1 y.2.2.1), (6, .slice oa es.length cap), (7, .int .i64 (es.length : Int)), (8, .int .i64 (y.1 : Int))]) (fun y => [.own (.slice y.2.1 y.1 y.2.2.1) 60 6 y.1 y.2.2.2.1, .tree y.2.2.2.2 (fun w => ExSs 60 w (es.take y.1) y.2.2.2.1 y.2.2.2.2)]) (fun y _ => y.1 ≤ es.length ∧ Nw w0.heap.size y.2.2.2.2) (fun y => es.length - y.1) (0, none, 0, [], []) ⟨rfl, rfl, rfl, rfl, trivial⟩ (by simpa using st) ⟨by simp, Nw.nil⟩ ?_
 clear st
 rintro ⟨j, oj, cj, xs, S⟩ w ⟨hj, hSS⟩ st
 dsimp only at *
 refine sr ?_
 refine vy (y_lss rfl rfl) ?_
 refine et (vk5 3 6 7 8 9 (vc_seq ?_))
 refine vif ?_ ?_
 ·intro hc9
  try simp only [dn] at hc9
  have stK := st
  obtain ⟨e, hej⟩ : ∃ e, es[j]? = some e := ⟨_, List.getElem?_eq_getElem (by omega)⟩
  obtain ⟨gb, go, rfl, hgS, hgl, hg⟩ := ExRow.at hr (by omega)
  obtain ⟨o0, c0, hV0, hr0, hc0⟩ := hg j e hej
  have hke := hok.2 j e hej
  have hz := mem_size hej
  have hz2 : szo e.kids < szo es := by have : szo e.kids < szo e := by cases e; exact ex_size
                                       omega
  have st := stK
  clear stK
  refine kt (vk4 3 6 7 8 (vc_seq (vc_block (sr ?_))))
  refine vy (y_ia (k := j) rfl rfl underlying54 sizeOf60 rfl (by omega)) ?_
  refine vy (y_ldca (exL e o0 c0) rfl isAgg60 sizeOf60 rfl (fun i v hi => st.chg.cell (hc0 i v hi) (by simp))) ?_
  refine vc_e (e_al (l := [_, _, _, _, _, _]) st rfl rfl zeroValue60 rfl ?_)
  intro b5 w hb5 st
  refine vc_e (e_sts (vs := [_, _, _, _, _, _]) st 0 rfl rfl rfl rfl rfl sizeOf60 rfl rfl (by (right; assumption)) ?_)
  intro w st; dsimp only [setNth, wr] at st
  refine et (vk5 3 5 6 7 8 (sr ?_))
  refine yfz 4 underlying60 sizeOf54 ?_
  refine yl st 0 isAgg54 ?_
  refine vc_e (e_call [_] rfl rfl call38 rfl (ih _ hz2 e.kids rfl hke.kids _ _ _ (hr0.kept (Same.of_nil st.chg)) (Nat.le_trans hn0 st.chg.size)) ?_)
  rintro _ w ⟨oq, cq, Sq, rfl, hQ, hN, cw⟩
  have hN9 := hN.le st.chg.size
  replace st := St.pushR (r := .tree Sq (fun w => ExRQ w oq cq e.kids Sq)) st cw (holds_of hQ hQ.lt (fun a b h hk => h.kept hk)) hN.2
  refine yfz 4 underlying60 sizeOf54 ?_
  refine vc_e (e_st st 1 rfl rfl rfl rfl sizeOf54 rfl rfl (by (right; assumption)) ?_)
  intro w st; dsimp only [setNth, wr] at st
  refine et (vk5 3 5 6 7 8 (vc_region ?_))
  refine ym ?_
  refine yla st 1 [_, _, _, _, _, _] isAgg60 sizeOf60 ?_
  refine vc_e (e_bs1 (l := [_, _, _, _, _, _]) st rfl rfl rfl rfl underlying54 sizeOf60 rfl rfl rfl zeroValue60 ?_)
  intro b18 w hb18 st
  refine vc_e (e_app (bytes := 64) st 3 0 rfl rfl rfl rfl rfl rfl underlying54 Tryz.info60 rfl rfl rfl rfl rfl (by simp) rfl rfl (by unfold maxLen; omega) (by omega) ?_)
  intro oaQ capQ w st; dsimp only [setNth] at st
  refine ya ?_
  refine vc_end (vq_block (vq_then (vk4 3 6 7 8 (vc_region ?_))))
  have hne : ∀ b ∈ S, b ∉ Sq := fun b hb => st.ne (i := 4) (j := 1) (by decide) rfl rfl b hb
  have stN := st.pick [4, 1, 3] rfl (by decide)
  have h1 := (stN.res (i := 0) rfl).1
  have h2 := (stN.res (i := 1) rfl).1
  have h3 : ExSs 60 w (es.take (j + 1)) (xs ++ exL e oq cq) (S ++ Sq) := by rw [take_snoc hej]; exact ExSs.snoc h1 (ExS_iff.2 ⟨oq, cq, rfl, h2⟩)
  replace stN := (stN.join (q := .tree (S ++ Sq) fun w => ExSs 60 w (es.take (j + 1)) (xs ++ exL e oq cq) (S ++ Sq)) (fun k hk => List.mem_append.1 hk) (holds_of h3 h3.lt (fun a b h hk => h.kept hk))).pick [1, 0] rfl (by decide)
  refine vy (y_add rfl rfl (by omega : _ = ((j + 1 : Nat) : Int)) (by omega) (by omega)) ?_
  refine ym ?_
  refine vc_end ?_
  refine vq_again (j + 1, oaQ, capQ, xs ++ exL e oq cq, S ++ Sq)  ⟨rfl, rfl, rfl, rfl, trivial⟩ stN ?_ ?_
  ·exact ⟨by dsimp only; omega, hSS.app hN9 hne⟩
  dsimp only; omega
 intro hc9
 try simp only [dn] at hc9
 refine vc_exit (vq_then_exit (vq_then_exit (vq_block_exit (vq_then (vk1 3 (sr ?_))))))
 refine ym ?_
 refine ya ?_
 refine et (vk1 2 (vc_ret ?_))
 refine vq_ret1 st (.inl rfl) results38 (.tmp rfl) ?_
 refine ⟨_, rfl, ?_⟩
 obtain rfl : j = es.length := by omega
 rw [List.take_length] at st
 obtain ⟨h1, h2⟩ := st.ownNw (i := 0) rfl
 have h3 := (st.res (i := 1) rfl).1
 exact ⟨oj, cj, obk oj ++ S, rfl, ⟨xs, S, h1, rfl, h3⟩, h2.app hSS (fun b hb => st.ne (i := 0) (j := 1) (by decide) rfl rfl b (by simpa [Res.at?, obk_own] using hb)), st.chg⟩
set_option maxHeartbeats 1000000 in
theorem pcopyS_any : ∀ (n : Nat) (es : List Sm), szo es = n → OkSs es → ∀ (oa : Option Addr) (cap : Nat) (w : World), SmRow w (· < n0) oa es → n0 ≤ w.heap.size →
    Ret Tryz.prog 20 [.slice oa es.length cap] w fun v w' => ∃ oq cq Sq, v = .slice oq es.length cq ∧ SmRQ w' oq cq es Sq ∧ Nw w.heap.size Sq ∧ Chg [] w w' := by
 intro n
 refine Nat.strongRecOn n fun n ih => ?_
 intro es hn hok oa cap w hr hn0
 subst hn
 have hle := hok.1
 refine ret_of [_] func20 rfl ntmps20 rfl ?_
 have st := St.init w []
 obtain ⟨w0, rfl⟩ : ∃ w0, w0 = w := ⟨_, rfl⟩
 replace st := St.pushR (r := .tree [] (fun w => SmSs 60 56 w [] [] [])) st (Chg.refl _ _) (holds_of (by simp [SmSs]) (by simp) (fun a b h hk => h.kept hk)) (by simp [Res.at?])
 replace st := st.ownNil 56 7
 refine sr ?_
 refine ya ?_
 refine et (vk1 0 (sr ?_))
 refine ya ?_
 refine et (vk2 0 3 (vc_seq (sr ?_)))
 refine ym ?_
 refine vy (y_lensl rfl underlying48) ?_
 refine ym ?_
 refine et (vk4 3 6 7 8 (vc_block ?_))
 refine vc_loop (w0 := w0) (M := []) (fun (y : Nat × Option Addr × Nat × List Value × List Nat) => [(3, .slice y.2.1 y.1 y.2.2.1), (6, .slice oa es.length cap), (7, .int .i64 (es.length : Int)), (8, .int .i64 (y.1 : Int))]) (fun y => [.own (.slice y.2.1 y.1 y.2.2.1) 56 7 y.1 y.2.2.2.1, .tree y.2.2.2.2 (fun w => SmSs 60 56 w (es.take y.1) y.2.2.2.1 y.2.2.2.2)]) (fun y _ => y.1 ≤ es.length ∧ Nw w0.heap.size y.2.2.2.2) (fun y => es.length - y.1) (0, none, 0, [], []) ⟨rfl, rfl, rfl, rfl, trivial⟩ (by simpa using st) ⟨by simp, Nw.nil⟩ ?_
 clear st
 rintro ⟨j, oj, cj, xs, S⟩ w ⟨hj, hSS⟩ st
 dsimp only at *
 refine sr ?_
 refine vy (y_lss rfl rfl) ?_
 refine et (vk5 3 6 7 8 9 (vc_seq ?_))
 refine vif ?_ ?_
 ·intro hc9
  try simp only [dn] at hc9
  have stK := st
  obtain ⟨s, hsj⟩ : ∃ s, es[j]? = some s := ⟨_, List.getElem?_eq_getElem (by omega)⟩
  obtain ⟨gb, go, rfl, hgS, hgl, hg⟩ := SmRow.at hr (by omega)
  obtain ⟨oe, ob, ol, ce, cb, cl, hsV, hse, hsb, hsl, hc⟩ := hg j s hsj
  have hks := hok.2 j s hsj
  have hz := mem_size hsj
  have hB : szo s.body < szo es := by have : szo s.body < szo s := by cases s; exact sm_size.1
                                      omega
  have hL : szo s.els < szo es := by have : szo s.els < szo s := by cases s; exact sm_size.2
                                     omega
  have st := stK
  clear stK
  refine kt (vk4 3 6 7 8 (vc_seq (vc_block (sr ?_))))
  refine vy (y_ia (k := j) rfl rfl underlying48 sizeOf56 rfl (by omega)) ?_
  refine vy (y_ldca (smL s oe ob ol ce cb cl) rfl isAgg56 sizeOf56 rfl (fun i v hi => st.chg.cell (hc i v hi) (by simp))) ?_
  refine vc_e (e_al (l := [_, _, _, _, _, _, _]) st rfl rfl zeroValue56 rfl ?_)
  intro b5 w hb5 st
  refine vc_e (e_sts (vs := [_, _, _, _, _, _, _]) st 0 rfl rfl rfl rfl rfl sizeOf56 rfl rfl (by (right; assumption)) ?_)
  intro w st; dsimp only [setNth, wr] at st
  refine et (vk5 3 5 6 7 8 (vc_seq ?_))
  refine vk_draw Tryz.mixed [(0, true), (3, true), (6, true), (1, true), (4, true), (7, true), (2, false), (9, true), (5, false), (8, false), (10, false), (11, true), (12, false), (13, true), (14, false)] 10 (fun w => St _ _ [.blk b5 (.cells (smL s oe ob ol ce cb cl).toArray 56 (0, 0))] w) st.dr (by kernel_rfl) (by repeat (first | exact okQ_body | refine okQ_then ?_ | refine okQ_block ?_)) rfl (by kernel_rfl) rfl ?_
  intro w cd; replace st := st.call0 cd; clear cd
  have hS : St _ _ [.blk b5 (.cells (smL s oe ob ol ce cb cl).toArray 56 (0, 0))] w := st.dr
  refine vk_takeU rfl rfl rfl rfl (fun _ => hS) (fun w => (by exact y_faz (k := 3) rfl underlying56 rfl rfl sizeOf54 rfl)) ?_
  refine vk_takeU rfl rfl rfl rfl (fun _ => hS) (fun w => (by exact y_faz (k := 4) rfl underlying56 rfl rfl sizeOf48 rfl)) ?_
  refine vk_takeU rfl rfl rfl rfl (fun _ => hS) (fun w => (by exact y_faz (k := 5) rfl underlying56 rfl rfl sizeOf48 rfl)) ?_
  refine vk_take rfl rfl rfl rfl hS (fun w st => y_ld st 0 rfl isAgg54 rfl rfl) ?_
  iterate 2 refine vk_take rfl rfl rfl rfl hS (fun w st => y_ld st 0 rfl isAgg48 rfl rfl) ?_
  refine vk_do rfl rfl (e_call [_] rfl rfl call38 rfl (pcopyE_any _ s.e rfl hks.e _ _ _ (hse.kept (Same.of_nil st.chg)) (Nat.le_trans hn0 st.chg.size)) ?_)
  rintro _ w ⟨q1, c1, S1, rfl, hQ, hN, cw⟩
  have hN1 := hN.le st.chg.size
  replace st := St.pushR (r := .tree S1 (fun w => ExRQ w q1 c1 s.e S1)) st cw (holds_of hQ hQ.lt (fun a b h hk => h.kept hk)) hN.2
  refine vk_next st.dr ?_; intro hS
  refine vk_takeU rfl rfl rfl rfl (fun _ => hS) (fun w => (by exact y_faz (k := 3) rfl underlying56 rfl rfl sizeOf54 rfl)) ?_
  refine vk_do rfl rfl (e_call [_] rfl rfl call20 rfl (ih _ hB s.body rfl hks.body _ _ _ (hsb.kept (Same.of_nil st.chg)) (Nat.le_trans hn0 st.chg.size)) ?_)
  rintro _ w ⟨q2, c2, S2, rfl, hQ, hN, cw⟩
  have hN2 := hN.le st.chg.size
  replace st := St.pushR (r := .tree S2 (fun w => SmRQ w q2 c2 s.body S2)) st cw (holds_of hQ hQ.lt (fun a b h hk => h.kept hk)) hN.2
  refine vk_next st.dr ?_; intro hS
  refine vk_do rfl rfl (e_call [_] rfl rfl call20 rfl (ih _ hL s.els rfl hks.els _ _ _ (hsl.kept (Same.of_nil st.chg)) (Nat.le_trans hn0 st.chg.size)) ?_)
  rintro _ w ⟨q3, c3, S3, rfl, hQ, hN, cw⟩
  have hN3 := hN.le st.chg.size
  replace st := St.pushR (r := .tree S3 (fun w => SmRQ w q3 c3 s.els S3)) st cw (holds_of hQ hQ.lt (fun a b h hk => h.kept hk)) hN.2
  refine vk_next st.dr ?_; intro hS
  refine vk_do rfl rfl (e_st st 3 rfl rfl rfl rfl sizeOf54 rfl rfl (by (right; assumption)) ?_)
  intro w st; dsimp only [setNth, wr] at st
  refine vk_late ?_
  refine vk_takeU rfl rfl rfl rfl (fun h => by cases h) (fun w => (by exact y_faz (k := 4) rfl underlying56 rfl rfl sizeOf48 rfl)) ?_
  refine vk_do rfl rfl (e_st st 3 rfl rfl rfl rfl sizeOf48 rfl rfl (by (right; assumption)) ?_)
  intro w st; dsimp only [setNth, wr] at st
  refine vk_late ?_
  refine vk_takeU rfl rfl rfl rfl (fun h => by cases h) (fun w => (by exact y_faz (k := 5) rfl underlying56 rfl rfl sizeOf48 rfl)) ?_
  refine vk_do rfl rfl (e_st st 3 rfl rfl rfl rfl sizeOf48 rfl rfl (by (right; assumption)) ?_)
  intro w st; dsimp only [setNth, wr] at st
  refine vk_late ?_
  refine vk_end ?_
  refine vq_then (vk5 3 5 6 7 8 (vc_region ?_))
  refine ym ?_
  refine yla st 3 [_, _, _, _, _, _, _] isAgg56 sizeOf56 ?_
  refine vc_e (e_bs1 (l := [_, _, _, _, _, _, _]) st rfl rfl rfl rfl underlying48 sizeOf56 rfl rfl rfl zeroValue56 ?_)
  intro b26 w hb26 st
  refine vc_e (e_app (bytes := 120) st 5 0 rfl rfl rfl rfl rfl rfl underlying48 Tryz.info56 rfl rfl rfl rfl rfl (by simp) rfl rfl (by unfold maxLen; omega) (by omega) ?_)
  intro oaQ capQ w st; dsimp only [setNth] at st
  refine ya ?_
  refine vc_end (vq_block (vq_then (vk4 3 6 7 8 (vc_region ?_))))
  have d23 := st.ne (i := 2) (j := 1) (by decide) rfl rfl
  have d12 := st.ne (i := 3) (j := 2) (by decide) rfl rfl
  have d13 := st.ne (i := 3) (j := 1) (by decide) rfl rfl
  have dS1 := st.ne (i := 6) (j := 3) (by decide) rfl rfl
  have dS2 := st.ne (i := 6) (j := 2) (by decide) rfl rfl
  have dS3 := st.ne (i := 6) (j := 1) (by decide) rfl rfl
  have hNq := hN1.app (hN2.app hN3 d23) (fun b hb hb' => (List.mem_append.1 hb').elim (d12 b hb) (d13 b hb))
  have hne : ∀ b ∈ S, b ∉ S1 ++ (S2 ++ S3) := fun b hb hb' => (List.mem_append.1 hb').elim (dS1 b hb) fun h => (List.mem_append.1 h).elim (dS2 b hb) (dS3 b hb)
  have h0 := (st.res (i := 6) rfl).1
  have h1 := (st.res (i := 3) rfl).1
  have h2 := (st.res (i := 2) rfl).1
  have h3 := (st.res (i := 1) rfl).1
  have h4 : SmSs 60 56 w (es.take (j + 1)) (xs ++ smL s q1 q2 q3 c1 c2 c3) (S ++ (S1 ++ (S2 ++ S3))) := by rw [take_snoc hsj]; exact SmSs.snoc h0 (SmS_iff.2 ⟨q1, c1, q2, c2, q3, c3, S1, S2, S3, rfl, h1, h2, h3, rfl⟩)
  have stN := (((st.pick [6, 3, 2, 1, 5] rfl (by decide)).joinN 4 (q := .tree (S ++ (S1 ++ (S2 ++ S3))) fun w => SmSs 60 56 w (es.take (j + 1)) (xs ++ smL s q1 q2 q3 c1 c2 c3) (S ++ (S1 ++ (S2 ++ S3)))) (fun k hk => by
    simp only [Res.at?, List.mem_append] at hk
    rcases hk with h | h | h | h
    · exact ⟨_, .head _, h⟩
    · exact ⟨_, .tail _ (.head _), h⟩
    · exact ⟨_, .tail _ (.tail _ (.head _)), h⟩
    · exact ⟨_, .tail _ (.tail _ (.tail _ (.head _))), h⟩) (holds_of h4 h4.lt (fun a b h hk => h.kept hk)))).pick [1, 0] rfl (by decide)
  refine vy (y_add rfl rfl (by omega : _ = ((j + 1 : Nat) : Int)) (by omega) (by omega)) ?_
  refine ym ?_
  refine vc_end ?_
  refine vq_again (j + 1, oaQ, capQ, xs ++ smL s q1 q2 q3 c1 c2 c3, S ++ (S1 ++ (S2 ++ S3)))  ⟨rfl, rfl, rfl, rfl, trivial⟩ stN ?_ ?_
  ·exact ⟨by dsimp only; omega, hSS.app hNq hne⟩
  dsimp only; omega
 intro hc9
 try simp only [dn] at hc9
 refine vc_exit (vq_then_exit (vq_then_exit (vq_block_exit (vq_then (vk1 3 (sr ?_))))))
 refine ym ?_
 refine ya ?_
 refine et (vk1 2 (vc_ret ?_))
 refine vq_ret1 st (.inl rfl) results20 (.tmp rfl) ?_
 refine ⟨_, rfl, ?_⟩
 obtain rfl : j = es.length := by omega
 rw [List.take_length] at st
 obtain ⟨h1, h2⟩ := st.ownNw (i := 0) rfl
 have h3 := (st.res (i := 1) rfl).1
 exact ⟨oj, cj, obk oj ++ S, rfl, ⟨xs, S, h1, rfl, h3⟩, h2.app hSS (fun b hb => st.ne (i := 0) (j := 1) (by decide) rfl rfl b (by simpa [Res.at?, obk_own] using hb)), st.chg⟩
end
end Go.Proofs.YtggnfanphcaamaaGreatDoor

