/- A part of the proof: contracts of functions and plain laws; each theorem says its own conditions. -/
import Derived.Test.YtggnfanphcaamaaGreatDoorK16
namespace Go.Proofs.YtggnfanphcaamaaGreatDoor
open Go.RowKit Sx LexS _root_.Go.Proofs.Tryz
set_option linter.unusedVariables false
set_option linter.unusedSimpArgs false
section
variable {S : Nat → Prop}

theorem rdeclsS_any (a b : List Dc) (oa ob : Option Addr) (ca cb : Nat) (w : World) (hA : DcRow w S oa a) (hB : DcRow w S ob b) (hn : a.length ≤ 1099511627776) :
    Ret Tryz.prog 35 [.slice oa a.length ca, .slice ob b.length cb] w fun v w' => v = .bool (zipA sameD a b) ∧ Chg [] w w' := by
 refine ret_of [_, _] func35 rfl ntmps35 rfl ?_
 have st := St.init w []
 obtain ⟨w0, rfl⟩ : ∃ w0, w0 = w := ⟨_, rfl⟩
 refine vc_seq (vc_region ?_)
 refine vc_y rfl rfl (y_as rfl) ?_
 refine vc_end (vq_then (vc_keep [(0, _), (1, _)] ⟨rfl, rfl, trivial⟩ (vc_seq (vc_seq (vc_region ?_)))))
 refine vc_y rfl rfl (y_mv rfl) ?_
 refine vc_y rfl rfl (y_lensl rfl underlying22) ?_
 refine vc_y rfl rfl (y_mv rfl) ?_
 refine vc_y rfl rfl (y_lensl rfl underlying22) ?_
 refine vc_y rfl rfl (y_nei rfl rfl) ?_
 refine vc_end (vq_then (vc_keep [(0, _), (1, _), (10, _)] ⟨rfl, rfl, rfl, trivial⟩ ?_))
 refine vc_ifs rfl ?_ ?_
 ·
  intro hc10
  try simp only [dn] at hc10
  refine vc_seq (vc_region ?_)
  refine vc_y rfl rfl (y_as rfl) ?_
  refine vc_end (vq_then (vc_keep [(4, _)] ⟨rfl, trivial⟩ (vc_ret (vq_then_ret ?_))))
  refine vq_ret1 st (.inl rfl) results35 (.tmp rfl) ?_
  refine ⟨_, rfl, ?_⟩
  refine ⟨?_, st.chg⟩
  rw [zipA_len (by omega)]
 ·
  intro hc10
  try simp only [dn] at hc10
  have hlen : a.length = b.length := by omega
  refine vc_code_skip (vq_then (vc_keep [(0, _), (1, _)] ⟨rfl, rfl, trivial⟩ (vc_seq (vc_seq (vc_region ?_)))))
  refine vc_y rfl rfl (y_mv rfl) ?_
  refine vc_y rfl rfl (y_lensl rfl underlying22) ?_
  refine vc_y rfl rfl (y_mv rfl) ?_
  refine vc_end (vq_then (vc_keep [(0, _), (1, _), (12, _), (13, _)] ⟨rfl, rfl, rfl, rfl, trivial⟩ (vc_block ?_)))
  refine vc_loop (w0 := w0) (M := []) (fun (j : Nat) => [(0, .slice oa a.length ca), (1, .slice ob b.length cb), (12, .int .i64 (a.length : Int)), (13, .int .i64 (j : Int))]) (fun _ => []) (fun j _ => j ≤ a.length ∧ ∀ (i : Nat) x y, i < j → a[i]? = some x → b[i]? = some y → sameD x y = true) (fun j => a.length - j) 0 ⟨rfl, rfl, rfl, rfl, trivial⟩ (st.drop (by repeat (first | exact sl0 | apply sl1 | apply sl2))) ⟨by omega, fun i x y h => by omega⟩ ?_
  clear st
  rintro j w ⟨hj, hall⟩ st
  refine vc_seq (vc_region ?_)
  refine vc_y rfl rfl (y_lss rfl rfl) ?_
  refine vc_end (vq_then (vc_keep [(0, _), (1, _), (12, _), (13, _), (14, _)] ⟨rfl, rfl, rfl, rfl, rfl, trivial⟩ (vc_seq ?_)))
  refine vc_ifs rfl ?_ ?_
  ·
   intro hc14
   try simp only [dn] at hc14
   obtain ⟨x, hx⟩ : ∃ x, a[j]? = some x := ⟨_, List.getElem?_eq_getElem (by omega)⟩
   obtain ⟨y, hy⟩ : ∃ y, b[j]? = some y := ⟨_, List.getElem?_eq_getElem (by omega)⟩
   obtain ⟨gb, go, rfl, hgS, hgl, hg⟩ := DcRow.at hA (by omega)
   obtain ⟨fb, fo, rfl, hfS, hfl, hf⟩ := DcRow.at hB (by omega)
   have hc := hg j x hx
   have hd := hf j y hy
   refine vc_code_skip (vq_then (vc_keep [(0, _), (1, _), (12, _), (13, _)] ⟨rfl, rfl, rfl, rfl, trivial⟩ (vc_seq (vc_block (vc_seq (vc_region ?_))))))
   refine vc_y rfl rfl (y_mv rfl) ?_
   refine vc_y rfl rfl (y_as rfl) ?_
   refine vc_end (vq_then (vc_keep [(0, _), (1, _), (5, _), (12, _), (13, _)] ⟨rfl, rfl, rfl, rfl, rfl, trivial⟩ (vc_seq ?_)))
   refine vc_draw Tryz.mixed [(0, true), (1, true), (2, true), (3, true), (4, true), (5, true), (6, true), (7, true), (8, true), (9, true), (10, true), (11, true), (12, true), (13, true), (14, true), (15, true), (16, true), (17, true), (18, true), (19, true), (20, true), (21, true), (22, true), (23, true)] (fun w => St _ _ _ w) st (by kernel_rfl) (by repeat (first | exact okQ_body | refine okQ_then ?_ | refine okQ_block ?_)) rfl (by kernel_rfl) ?_
   intro w cd; replace st := st.call0 cd; clear cd
   have hS := st
   iterate 2 refine vp_take rfl rfl rfl hS (fun w st => y_mv rfl) ?_
   refine vp_take rfl rfl rfl hS (fun w st => (by exact y_ia (k := j) rfl rfl underlying22 sizeOf52 rfl (by omega))) ?_
   refine vp_take rfl rfl rfl hS (fun w st => y_fa0 rfl underlying52 rfl rfl sizeOf9 rfl) ?_
   refine vp_take rfl rfl rfl hS (fun w st => (by exact y_ldc rfl isAgg9 (st.chg.cell (hc 0 _ rfl) (by simp)))) ?_
   iterate 2 refine vp_take rfl rfl rfl hS (fun w st => y_mv rfl) ?_
   refine vp_take rfl rfl rfl hS (fun w st => (by exact y_ia (k := j) rfl rfl underlying22 sizeOf52 rfl (by omega))) ?_
   refine vp_take rfl rfl rfl hS (fun w st => y_fa0 rfl underlying52 rfl rfl sizeOf9 rfl) ?_
   refine vp_take rfl rfl rfl hS (fun w st => (by exact y_ldc rfl isAgg9 (st.chg.cell (hd 0 _ rfl) (by simp)))) ?_
   refine vp_take rfl rfl rfl hS (fun w st => y_nes rfl rfl) ?_
   refine vp_part rfl rfl rfl hS rfl ?_ ?_
   ·
    intro hg27
    try simp only [dn] at hg27
    iterate 11 refine vp_skip rfl rfl rfl hS ?_
    refine vp_take rfl rfl rfl hS (fun w st => y_pickt rfl rfl) ?_
    refine vp_end (vq_then (vc_keep [(0, _), (1, _), (12, _), (13, _), (39, _)] ⟨rfl, rfl, rfl, rfl, rfl, trivial⟩ ?_))
    refine vc_ift rfl ?_
    refine vc_seq (vc_region ?_)
    refine vc_y rfl rfl (y_as rfl) ?_
    refine vc_end (vq_then (vc_keep [(4, _)] ⟨rfl, trivial⟩ (vc_ret (vq_block_ret (vq_then_ret (vq_then_ret (vq_block_ret (vq_then_ret ?_))))))))
    refine vq_ret1 st (.inl rfl) results35 (.tmp rfl) ?_
    refine ⟨_, rfl, ?_⟩
    refine ⟨?_, st.chg⟩
    rw [zipA_no hx hy (by unfold sameD; simp_all)]
   ·
    intro hg27
    try simp only [dn] at hg27
    iterate 2 refine vp_take rfl rfl rfl hS (fun w st => y_mv rfl) ?_
    refine vp_take rfl rfl rfl hS (fun w st => (by exact y_ia (k := j) rfl rfl underlying22 sizeOf52 rfl (by omega))) ?_
    refine vp_take rfl rfl rfl hS (fun w st => (by exact y_fa (k := 1) rfl underlying52 rfl rfl sizeOf2 rfl)) ?_
    refine vp_take rfl rfl rfl hS (fun w st => (by exact y_ldc rfl isAgg2 (st.chg.cell (hc 1 _ rfl) (by simp)))) ?_
    iterate 2 refine vp_take rfl rfl rfl hS (fun w st => y_mv rfl) ?_
    refine vp_take rfl rfl rfl hS (fun w st => (by exact y_ia (k := j) rfl rfl underlying22 sizeOf52 rfl (by omega))) ?_
    refine vp_take rfl rfl rfl hS (fun w st => (by exact y_fa (k := 1) rfl underlying52 rfl rfl sizeOf2 rfl)) ?_
    refine vp_take rfl rfl rfl hS (fun w st => (by exact y_ldc rfl isAgg2 (st.chg.cell (hd 1 _ rfl) (by simp)))) ?_
    refine vp_take rfl rfl rfl hS (fun w st => y_nei rfl rfl) ?_
    refine vp_take rfl rfl rfl hS (fun w st => y_pickf rfl rfl) ?_
    refine vp_end (vq_then (vc_keep [(0, _), (1, _), (12, _), (13, _), (39, _)] ⟨rfl, rfl, rfl, rfl, rfl, trivial⟩ ?_))
    refine vc_ifs rfl ?_ ?_
    ·
     intro hc39
     try simp only [dn] at hc39
     refine vc_seq (vc_region ?_)
     refine vc_y rfl rfl (y_as rfl) ?_
     refine vc_end (vq_then (vc_keep [(4, _)] ⟨rfl, trivial⟩ (vc_ret (vq_block_ret (vq_then_ret (vq_then_ret (vq_block_ret (vq_then_ret ?_))))))))
     refine vq_ret1 st (.inl rfl) results35 (.tmp rfl) ?_
     refine ⟨_, rfl, ?_⟩
     refine ⟨?_, st.chg⟩
     rw [zipA_no hx hy (by unfold sameD; simp_all)]
    ·
     intro hc39
     try simp only [dn] at hc39
     refine vc_code_skip (vq_block (vq_then (vc_keep [(0, _), (1, _), (12, _), (13, _)] ⟨rfl, rfl, rfl, rfl, trivial⟩ (vc_region ?_))))
     refine vc_y rfl rfl (y_add rfl rfl (by omega : _ = ((j + 1 : Nat) : Int)) (by omega) (by omega)) ?_
     refine vc_y rfl rfl (y_mv rfl) ?_
     refine vc_end ?_
     refine vq_again (j + 1)  ⟨rfl, rfl, rfl, rfl, trivial⟩ (st.drop (by repeat (first | exact sl0 | apply sl1 | apply sl2))) ?_ ?_
     ·
      exact ⟨by omega, fun i x' y' hi h1 h2 => by
        rcases (by omega : i < j ∨ i = j) with h | rfl
        · exact hall i x' y' h h1 h2
        · rw [hx] at h1; rw [hy] at h2; cases h1; cases h2; (unfold sameD; simp_all)⟩
     ·
      omega
  ·
   intro hc14
   try simp only [dn] at hc14
   refine vc_exit (vq_then_exit (vq_then_exit (vq_block_exit (vq_then (vc_keep [] trivial (vc_seq (vc_region ?_)))))))
   refine vc_y rfl rfl (y_as rfl) ?_
   refine vc_end (vq_then (vc_keep [(4, _)] ⟨rfl, trivial⟩ (vc_ret ?_)))
   refine vq_ret1 st (.inl rfl) results35 (.tmp rfl) ?_
   refine ⟨_, rfl, ?_⟩
   refine ⟨?_, st.chg⟩
   rw [zipA_yes hlen fun i x y hi h1 h2 => hall i x y (by omega) h1 h2]

theorem rdeclared_any (a b : List Dc) (oa ob : Option Addr) (ca cb : Nat) (w : World) (hA : DcRow w S oa a) (hB : DcRow w S ob b) (hn : a.length ≤ 1099511627776) :
    Ret Tryz.prog 18 [.slice oa a.length ca, .slice ob b.length cb] w fun v w' => v = .bool (zipA eqD a b) ∧ Chg [] w w' := by
 refine ret_of [_, _] func18 rfl ntmps18 rfl ?_
 have st := St.init w []
 obtain ⟨w0, rfl⟩ : ∃ w0, w0 = w := ⟨_, rfl⟩
 refine vc_seq (vc_region ?_)
 refine vc_y rfl rfl (y_as rfl) ?_
 refine vc_end (vq_then (vc_keep [(0, _), (1, _)] ⟨rfl, rfl, trivial⟩ (vc_seq (vc_seq (vc_region ?_)))))
 refine vc_y rfl rfl (y_mv rfl) ?_
 refine vc_y rfl rfl (y_lensl rfl underlying22) ?_
 refine vc_y rfl rfl (y_mv rfl) ?_
 refine vc_y rfl rfl (y_lensl rfl underlying22) ?_
 refine vc_y rfl rfl (y_nei rfl rfl) ?_
 refine vc_end (vq_then (vc_keep [(0, _), (1, _), (10, _)] ⟨rfl, rfl, rfl, trivial⟩ ?_))
 refine vc_ifs rfl ?_ ?_
 ·
  intro hc10
  try simp only [dn] at hc10
  refine vc_seq (vc_region ?_)
  refine vc_y rfl rfl (y_as rfl) ?_
  refine vc_end (vq_then (vc_keep [(4, _)] ⟨rfl, trivial⟩ (vc_ret (vq_then_ret ?_))))
  refine vq_ret1 st (.inl rfl) results18 (.tmp rfl) ?_
  refine ⟨_, rfl, ?_⟩
  refine ⟨?_, st.chg⟩
  rw [zipA_len (by omega)]
 ·
  intro hc10
  try simp only [dn] at hc10
  have hlen : a.length = b.length := by omega
  refine vc_code_skip (vq_then (vc_keep [(0, _), (1, _)] ⟨rfl, rfl, trivial⟩ (vc_seq (vc_seq (vc_region ?_)))))
  refine vc_y rfl rfl (y_mv rfl) ?_
  refine vc_y rfl rfl (y_lensl rfl underlying22) ?_
  refine vc_y rfl rfl (y_mv rfl) ?_
  refine vc_end (vq_then (vc_keep [(0, _), (1, _), (12, _), (13, _)] ⟨rfl, rfl, rfl, rfl, trivial⟩ (vc_block ?_)))
  refine vc_loop (w0 := w0) (M := []) (fun (j : Nat) => [(0, .slice oa a.length ca), (1, .slice ob b.length cb), (12, .int .i64 (a.length : Int)), (13, .int .i64 (j : Int))]) (fun _ => []) (fun j _ => j ≤ a.length ∧ ∀ (i : Nat) x y, i < j → a[i]? = some x → b[i]? = some y → eqD x y = true) (fun j => a.length - j) 0 ⟨rfl, rfl, rfl, rfl, trivial⟩ (st.drop (by repeat (first | exact sl0 | apply sl1 | apply sl2))) ⟨by omega, fun i x y h => by omega⟩ ?_
  clear st
  rintro j w ⟨hj, hall⟩ st
  refine vc_seq (vc_region ?_)
  refine vc_y rfl rfl (y_lss rfl rfl) ?_
  refine vc_end (vq_then (vc_keep [(0, _), (1, _), (12, _), (13, _), (14, _)] ⟨rfl, rfl, rfl, rfl, rfl, trivial⟩ (vc_seq ?_)))
  refine vc_ifs rfl ?_ ?_
  ·
   intro hc14
   try simp only [dn] at hc14
   obtain ⟨x, hx⟩ : ∃ x, a[j]? = some x := ⟨_, List.getElem?_eq_getElem (by omega)⟩
   obtain ⟨y, hy⟩ : ∃ y, b[j]? = some y := ⟨_, List.getElem?_eq_getElem (by omega)⟩
   obtain ⟨gb, go, rfl, hgS, hgl, hg⟩ := DcRow.at hA (by omega)
   obtain ⟨fb, fo, rfl, hfS, hfl, hf⟩ := DcRow.at hB (by omega)
   have hc := hg j x hx
   have hd := hf j y hy
   refine vc_code_skip (vq_then (vc_keep [(0, _), (1, _), (12, _), (13, _)] ⟨rfl, rfl, rfl, rfl, trivial⟩ (vc_seq (vc_block (vc_seq (vc_region ?_))))))
   refine vc_y rfl rfl (y_mv rfl) ?_
   refine vc_y rfl rfl (y_as rfl) ?_
   refine vc_end (vq_then (vc_keep [(0, _), (1, _), (5, _), (12, _), (13, _)] ⟨rfl, rfl, rfl, rfl, rfl, trivial⟩ (vc_seq ?_)))
   refine vc_draw Tryz.mixed [(0, true), (1, true), (2, true), (3, true), (4, true), (5, true), (6, true), (7, true), (8, true)] (fun w => St _ _ _ w) st (by kernel_rfl) (by repeat (first | exact okQ_body | refine okQ_then ?_ | refine okQ_block ?_)) rfl (by kernel_rfl) ?_
   intro w cd; replace st := st.call0 cd; clear cd
   have hS := st
   iterate 2 refine vp_take rfl rfl rfl hS (fun w st => y_mv rfl) ?_
   refine vp_take rfl rfl rfl hS (fun w st => (by exact y_ia (k := j) rfl rfl underlying22 sizeOf52 rfl (by omega))) ?_
   refine vp_take rfl rfl rfl hS (fun w st => (by exact y_ldca (dcL x) rfl isAgg52 sizeOf52 rfl (fun i v hi => st.chg.cell (hc i v hi) (by simp)))) ?_
   iterate 2 refine vp_take rfl rfl rfl hS (fun w st => y_mv rfl) ?_
   refine vp_take rfl rfl rfl hS (fun w st => (by exact y_ia (k := j) rfl rfl underlying22 sizeOf52 rfl (by omega))) ?_
   refine vp_take rfl rfl rfl hS (fun w st => (by exact y_ldca (dcL y) rfl isAgg52 sizeOf52 rfl (fun i v hi => st.chg.cell (hd i v hi) (by simp)))) ?_
   refine vp_take rfl rfl rfl hS (fun w st => y_neD (p := x) (q := y) rfl rfl) ?_
   refine vp_end (vq_then (vc_keep [(0, _), (1, _), (12, _), (13, _), (24, _)] ⟨rfl, rfl, rfl, rfl, rfl, trivial⟩ ?_))
   refine vc_ifs rfl ?_ ?_
   ·
    intro hc24
    try simp only [dn] at hc24
    refine vc_seq (vc_region ?_)
    refine vc_y rfl rfl (y_as rfl) ?_
    refine vc_end (vq_then (vc_keep [(4, _)] ⟨rfl, trivial⟩ (vc_ret (vq_block_ret (vq_then_ret (vq_then_ret (vq_block_ret (vq_then_ret ?_))))))))
    refine vq_ret1 st (.inl rfl) results18 (.tmp rfl) ?_
    refine ⟨_, rfl, ?_⟩
    refine ⟨?_, st.chg⟩
    rw [zipA_no hx hy (by simp_all)]
   ·
    intro hc24
    try simp only [dn] at hc24
    refine vc_code_skip (vq_block (vq_then (vc_keep [(0, _), (1, _), (12, _), (13, _)] ⟨rfl, rfl, rfl, rfl, trivial⟩ (vc_region ?_))))
    refine vc_y rfl rfl (y_add rfl rfl (by omega : _ = ((j + 1 : Nat) : Int)) (by omega) (by omega)) ?_
    refine vc_y rfl rfl (y_mv rfl) ?_
    refine vc_end ?_
    refine vq_again (j + 1)  ⟨rfl, rfl, rfl, rfl, trivial⟩ (st.drop (by repeat (first | exact sl0 | apply sl1 | apply sl2))) ?_ ?_
    ·
     exact ⟨by omega, fun i x' y' hi h1 h2 => by
       rcases (by omega : i < j ∨ i = j) with h | rfl
       · exact hall i x' y' h h1 h2
       · rw [hx] at h1; rw [hy] at h2; cases h1; cases h2; (simp_all)⟩
    ·
     omega
  ·
   intro hc14
   try simp only [dn] at hc14
   refine vc_exit (vq_then_exit (vq_then_exit (vq_block_exit (vq_then (vc_keep [] trivial (vc_seq (vc_region ?_)))))))
   refine vc_y rfl rfl (y_as rfl) ?_
   refine vc_end (vq_then (vc_keep [(4, _)] ⟨rfl, trivial⟩ (vc_ret ?_)))
   refine vq_ret1 st (.inl rfl) results18 (.tmp rfl) ?_
   refine ⟨_, rfl, ?_⟩
   refine ⟨?_, st.chg⟩
   rw [zipA_yes hlen fun i x y hi h1 h2 => hall i x y (by omega) h1 h2]

theorem rsameE_any (e y : Ex) (o o' : Option Addr) (c c' : Nat) (w : World) (hr : ExRow w S o e.kids) (hr' : ExRow w S o' y.kids)
    (hrec : ∀ w, ExRow w S o e.kids → ExRow w S o' y.kids → Ret Tryz.prog 54 [.slice o e.kids.length c, .slice o' y.kids.length c'] w fun v w' => v = .bool (zipA sameE e.kids y.kids) ∧ Chg [] w w') :
  Ret Tryz.prog 65 [.agg (exL e o c).toArray, .agg (exL y o' c').toArray] w fun v w' => v = .bool (sameE e y) ∧ Chg [] w w' := by
 refine ret_of [_, _] func65 rfl ntmps65 rfl ?_
 have st := St.init w []
 obtain ⟨w0, rfl⟩ : ∃ w0, w0 = w := ⟨_, rfl⟩
 refine vc_seq (vc_region ?_)
 refine vc_e (e_bx (l := [_, _, _, _, _, _]) st rfl rfl rfl rfl ?_)
 intro b2 w hb2 st
 refine vc_e (e_bx (l := [_, _, _, _, _, _]) st rfl rfl rfl rfl ?_)
 intro b3 w hb3 st
 refine vc_y rfl rfl (y_as rfl) ?_
 refine vc_end (vq_then (vc_keep [(2, _), (3, _)] ⟨rfl, rfl, trivial⟩ (vc_seq (vc_seq (vc_region ?_)))))
 refine vc_y rfl rfl (y_fa0 rfl underlying60 rfl rfl sizeOf57 rfl) ?_
 refine vc_y rfl rfl ((by exact y_ld st 1 rfl isAgg57 rfl rfl)) ?_
 refine vc_y rfl rfl (y_fa0 rfl underlying60 rfl rfl sizeOf57 rfl) ?_
 refine vc_y rfl rfl ((by exact y_ld st 0 rfl isAgg57 rfl rfl)) ?_
 refine vc_y rfl rfl (y_nei rfl rfl) ?_
 refine vc_e (e_mvb rfl rfl rfl ?_ ?_)
 ·
  intro hg10
  try simp only [dn] at hg10
  iterate 5 refine vc_e (e_skip rfl rfl ?_)
  refine vc_y rfl rfl (y_pickt rfl rfl) ?_
  refine vc_y rfl rfl (y_mv rfl) ?_
  iterate 5 refine vc_e (e_skip rfl rfl ?_)
  refine vc_y rfl rfl (y_pickt rfl rfl) ?_
  refine vc_y rfl rfl (y_mv rfl) ?_
  iterate 5 refine vc_e (e_skip rfl rfl ?_)
  refine vc_y rfl rfl (y_pickt rfl rfl) ?_
  refine vc_end (vq_then (vc_keep [(2, _), (3, _), (30, _)] ⟨rfl, rfl, rfl, trivial⟩ ?_))
  refine vc_ift rfl ?_
  refine vc_seq (vc_region ?_)
  refine vc_y rfl rfl (y_as rfl) ?_
  refine vc_end (vq_then (vc_keep [(4, _)] ⟨rfl, trivial⟩ (vc_ret (vq_then_ret ?_))))
  refine vq_ret1 st (.inl rfl) results65 (.tmp rfl) ?_
  refine ⟨_, rfl, ?_⟩
  refine ⟨?_, st.chg⟩
  rw [sameE_eq]
  first
   | (rw [show decide (e.k = y.k ∧ e.op = y.op ∧ e.wd = y.wd ∧ e.nm = y.nm) = false from by
       simp only [decide_eq_false_iff_not]
       rintro ⟨q1, q2, q3, q4⟩
       simp_all]
      rfl)
   | (rw [show decide (e.k = y.k ∧ e.op = y.op ∧ e.wd = y.wd ∧ e.nm = y.nm) = true from by simp_all, Bool.true_and])
 ·
  intro hg10
  try simp only [dn] at hg10
  refine vc_y rfl rfl ((by exact y_faz (k := 1) rfl underlying60 rfl rfl sizeOf58 rfl)) ?_
  refine vc_y rfl rfl ((by exact y_ld st 1 rfl isAgg58 rfl rfl)) ?_
  refine vc_y rfl rfl ((by exact y_faz (k := 1) rfl underlying60 rfl rfl sizeOf58 rfl)) ?_
  refine vc_y rfl rfl ((by exact y_ld st 0 rfl isAgg58 rfl rfl)) ?_
  refine vc_y rfl rfl (y_nei rfl rfl) ?_
  refine vc_y rfl rfl (y_pickf rfl rfl) ?_
  refine vc_e (e_mvb rfl rfl rfl ?_ ?_)
  ·
   intro hg17
   try simp only [dn] at hg17
   iterate 5 refine vc_e (e_skip rfl rfl ?_)
   refine vc_y rfl rfl (y_pickt rfl rfl) ?_
   refine vc_y rfl rfl (y_mv rfl) ?_
   iterate 5 refine vc_e (e_skip rfl rfl ?_)
   refine vc_y rfl rfl (y_pickt rfl rfl) ?_
   refine vc_end (vq_then (vc_keep [(2, _), (3, _), (30, _)] ⟨rfl, rfl, rfl, trivial⟩ ?_))
   refine vc_ift rfl ?_
   refine vc_seq (vc_region ?_)
   refine vc_y rfl rfl (y_as rfl) ?_
   refine vc_end (vq_then (vc_keep [(4, _)] ⟨rfl, trivial⟩ (vc_ret (vq_then_ret ?_))))
   refine vq_ret1 st (.inl rfl) results65 (.tmp rfl) ?_
   refine ⟨_, rfl, ?_⟩
   refine ⟨?_, st.chg⟩
   rw [sameE_eq]
   first
    | (rw [show decide (e.k = y.k ∧ e.op = y.op ∧ e.wd = y.wd ∧ e.nm = y.nm) = false from by
        simp only [decide_eq_false_iff_not]
        rintro ⟨q1, q2, q3, q4⟩
        simp_all]
       rfl)
    | (rw [show decide (e.k = y.k ∧ e.op = y.op ∧ e.wd = y.wd ∧ e.nm = y.nm) = true from by simp_all, Bool.true_and])
  ·
   intro hg17
   try simp only [dn] at hg17
   refine vc_y rfl rfl ((by exact y_faz (k := 2) rfl underlying60 rfl rfl sizeOf2 rfl)) ?_
   refine vc_y rfl rfl ((by exact y_ld st 1 rfl isAgg2 rfl rfl)) ?_
   refine vc_y rfl rfl ((by exact y_faz (k := 2) rfl underlying60 rfl rfl sizeOf2 rfl)) ?_
   refine vc_y rfl rfl ((by exact y_ld st 0 rfl isAgg2 rfl rfl)) ?_
   refine vc_y rfl rfl (y_nei rfl rfl) ?_
   refine vc_y rfl rfl (y_pickf rfl rfl) ?_
   refine vc_e (e_mvb rfl rfl rfl ?_ ?_)
   ·
    intro hg24
    try simp only [dn] at hg24
    iterate 5 refine vc_e (e_skip rfl rfl ?_)
    refine vc_y rfl rfl (y_pickt rfl rfl) ?_
    refine vc_end (vq_then (vc_keep [(2, _), (3, _), (30, _)] ⟨rfl, rfl, rfl, trivial⟩ ?_))
    refine vc_ift rfl ?_
    refine vc_seq (vc_region ?_)
    refine vc_y rfl rfl (y_as rfl) ?_
    refine vc_end (vq_then (vc_keep [(4, _)] ⟨rfl, trivial⟩ (vc_ret (vq_then_ret ?_))))
    refine vq_ret1 st (.inl rfl) results65 (.tmp rfl) ?_
    refine ⟨_, rfl, ?_⟩
    refine ⟨?_, st.chg⟩
    rw [sameE_eq]
    first
     | (rw [show decide (e.k = y.k ∧ e.op = y.op ∧ e.wd = y.wd ∧ e.nm = y.nm) = false from by
         simp only [decide_eq_false_iff_not]
         rintro ⟨q1, q2, q3, q4⟩
         simp_all]
        rfl)
     | (rw [show decide (e.k = y.k ∧ e.op = y.op ∧ e.wd = y.wd ∧ e.nm = y.nm) = true from by simp_all, Bool.true_and])
   ·
    intro hg24
    try simp only [dn] at hg24
    refine vc_y rfl rfl ((by exact y_faz (k := 3) rfl underlying60 rfl rfl sizeOf9 rfl)) ?_
    refine vc_y rfl rfl ((by exact y_ld st 1 rfl isAgg9 rfl rfl)) ?_
    refine vc_y rfl rfl ((by exact y_faz (k := 3) rfl underlying60 rfl rfl sizeOf9 rfl)) ?_
    refine vc_y rfl rfl ((by exact y_ld st 0 rfl isAgg9 rfl rfl)) ?_
    refine vc_y rfl rfl (y_nes rfl rfl) ?_
    refine vc_y rfl rfl (y_pickf rfl rfl) ?_
    refine vc_end (vq_then (vc_keep [(2, _), (3, _), (30, _)] ⟨rfl, rfl, rfl, trivial⟩ ?_))
    refine vc_ifs rfl ?_ ?_
    ·
     intro hc30
     try simp only [dn] at hc30
     refine vc_seq (vc_region ?_)
     refine vc_y rfl rfl (y_as rfl) ?_
     refine vc_end (vq_then (vc_keep [(4, _)] ⟨rfl, trivial⟩ (vc_ret (vq_then_ret ?_))))
     refine vq_ret1 st (.inl rfl) results65 (.tmp rfl) ?_
     refine ⟨_, rfl, ?_⟩
     refine ⟨?_, st.chg⟩
     rw [sameE_eq]
     first
      | (rw [show decide (e.k = y.k ∧ e.op = y.op ∧ e.wd = y.wd ∧ e.nm = y.nm) = false from by
          simp only [decide_eq_false_iff_not]
          rintro ⟨q1, q2, q3, q4⟩
          simp_all]
         rfl)
      | (rw [show decide (e.k = y.k ∧ e.op = y.op ∧ e.wd = y.wd ∧ e.nm = y.nm) = true from by simp_all, Bool.true_and])
    ·
     intro hc30
     try simp only [dn] at hc30
     refine vc_code_skip (vq_then (vc_keep [(2, _), (3, _)] ⟨rfl, rfl, trivial⟩ (vc_seq (vc_region ?_))))
     refine vc_y rfl rfl ((by exact y_faz (k := 4) rfl underlying60 rfl rfl sizeOf54 rfl)) ?_
     refine vc_y rfl rfl ((by exact y_ld st 1 rfl isAgg54 rfl rfl)) ?_
     refine vc_y rfl rfl ((by exact y_faz (k := 4) rfl underlying60 rfl rfl sizeOf54 rfl)) ?_
     refine vc_y rfl rfl ((by exact y_ld st 0 rfl isAgg54 rfl rfl)) ?_
     refine vc_e (e_call [_, _] rfl rfl call54 rfl (hrec _ (hr.kept (Same.of_nil st.chg)) (hr'.kept (Same.of_nil st.chg))) ?_)
     rintro _ w ⟨rfl, cw⟩
     replace st := st.call0 cw
     refine vc_y rfl rfl (y_as rfl) ?_
     refine vc_end (vq_then (vc_keep [(4, _)] ⟨rfl, trivial⟩ (vc_ret ?_)))
     refine vq_ret1 st (.inl rfl) results65 (.tmp rfl) ?_
     refine ⟨_, rfl, ?_⟩
     refine ⟨?_, st.chg⟩
     rw [sameE_eq]
     first
      | (rw [show decide (e.k = y.k ∧ e.op = y.op ∧ e.wd = y.wd ∧ e.nm = y.nm) = false from by
          simp only [decide_eq_false_iff_not]
          rintro ⟨q1, q2, q3, q4⟩
          simp_all]
         rfl)
      | (rw [show decide (e.k = y.k ∧ e.op = y.op ∧ e.wd = y.wd ∧ e.nm = y.nm) = true from by simp_all, Bool.true_and])

theorem rexprsS_any : ∀ (n : Nat) (a : List Ex), szo a = n → OkEs a → ∀ (b : List Ex) (oa ob : Option Addr) (ca cb : Nat) (w : World), ExRow w S oa a → ExRow w S ob b →
    Ret Tryz.prog 54 [.slice oa a.length ca, .slice ob b.length cb] w fun v w' => v = .bool (zipA sameE a b) ∧ Chg [] w w' := by
 intro n
 refine Nat.strongRecOn n fun n ih => ?_
 intro a hn hok b oa ob ca cb w hA hB
 subst hn
 have hn := hok.1
 refine ret_of [_, _] func54 rfl ntmps54 rfl ?_
 have st := St.init w []
 obtain ⟨w0, rfl⟩ : ∃ w0, w0 = w := ⟨_, rfl⟩
 refine vc_seq (vc_region ?_)
 refine vc_y rfl rfl (y_as rfl) ?_
 refine vc_end (vq_then (vc_keep [(0, _), (1, _)] ⟨rfl, rfl, trivial⟩ (vc_seq (vc_seq (vc_region ?_)))))
 refine vc_y rfl rfl (y_mv rfl) ?_
 refine vc_y rfl rfl (y_lensl rfl underlying54) ?_
 refine vc_y rfl rfl (y_mv rfl) ?_
 refine vc_y rfl rfl (y_lensl rfl underlying54) ?_
 refine vc_y rfl rfl (y_nei rfl rfl) ?_
 refine vc_end (vq_then (vc_keep [(0, _), (1, _), (10, _)] ⟨rfl, rfl, rfl, trivial⟩ ?_))
 refine vc_ifs rfl ?_ ?_
 ·
  intro hc10
  try simp only [dn] at hc10
  refine vc_seq (vc_region ?_)
  refine vc_y rfl rfl (y_as rfl) ?_
  refine vc_end (vq_then (vc_keep [(4, _)] ⟨rfl, trivial⟩ (vc_ret (vq_then_ret ?_))))
  refine vq_ret1 st (.inl rfl) results54 (.tmp rfl) ?_
  refine ⟨_, rfl, ?_⟩
  refine ⟨?_, st.chg⟩
  rw [zipA_len (by omega)]
 ·
  intro hc10
  try simp only [dn] at hc10
  have hlen : a.length = b.length := by omega
  refine vc_code_skip (vq_then (vc_keep [(0, _), (1, _)] ⟨rfl, rfl, trivial⟩ (vc_seq (vc_seq (vc_region ?_)))))
  refine vc_y rfl rfl (y_mv rfl) ?_
  refine vc_y rfl rfl (y_lensl rfl underlying54) ?_
  refine vc_y rfl rfl (y_mv rfl) ?_
  refine vc_end (vq_then (vc_keep [(0, _), (1, _), (12, _), (13, _)] ⟨rfl, rfl, rfl, rfl, trivial⟩ (vc_block ?_)))
  refine vc_loop (w0 := w0) (M := []) (fun (j : Nat) => [(0, .slice oa a.length ca), (1, .slice ob b.length cb), (12, .int .i64 (a.length : Int)), (13, .int .i64 (j : Int))]) (fun _ => []) (fun j _ => j ≤ a.length ∧ ∀ (i : Nat) x y, i < j → a[i]? = some x → b[i]? = some y → sameE x y = true) (fun j => a.length - j) 0 ⟨rfl, rfl, rfl, rfl, trivial⟩ (st.drop (by repeat (first | exact sl0 | apply sl1 | apply sl2))) ⟨by omega, fun i x y h => by omega⟩ ?_
  clear st
  rintro j w ⟨hj, hall⟩ st
  refine vc_seq (vc_region ?_)
  refine vc_y rfl rfl (y_lss rfl rfl) ?_
  refine vc_end (vq_then (vc_keep [(0, _), (1, _), (12, _), (13, _), (14, _)] ⟨rfl, rfl, rfl, rfl, rfl, trivial⟩ (vc_seq ?_)))
  refine vc_ifs rfl ?_ ?_
  ·
   intro hc14
   try simp only [dn] at hc14
   obtain ⟨x, hx⟩ : ∃ x, a[j]? = some x := ⟨_, List.getElem?_eq_getElem (by omega)⟩
   obtain ⟨y, hy⟩ : ∃ y, b[j]? = some y := ⟨_, List.getElem?_eq_getElem (by omega)⟩
   obtain ⟨gb, go, rfl, hgS, hgl, hg⟩ := ExRow.at hA (by omega)
   obtain ⟨fb, fo, rfl, hfS, hfl, hf⟩ := ExRow.at hB (by omega)
   obtain ⟨o0, c0, hV0, hr0, hc⟩ := hg j x hx
   obtain ⟨o1, c1, hV1, hr1, hd⟩ := hf j y hy
   have hkx := hok.2 j x hx
   have hz := mem_size hx
   have hz2 : szo x.kids < szo a := by have := szo_kids x; omega
   refine vc_code_skip (vq_then (vc_keep [(0, _), (1, _), (12, _), (13, _)] ⟨rfl, rfl, rfl, rfl, trivial⟩ (vc_seq (vc_block (vc_seq (vc_region ?_))))))
   refine vc_y rfl rfl (y_mv rfl) ?_
   refine vc_y rfl rfl (y_as rfl) ?_
   refine vc_end (vq_then (vc_keep [(0, _), (1, _), (5, _), (12, _), (13, _)] ⟨rfl, rfl, rfl, rfl, rfl, trivial⟩ (vc_seq ?_)))
   refine vc_draw Tryz.mixed [(0, true), (1, true), (2, true), (3, true), (4, true), (5, true), (6, true), (7, true), (8, false), (9, true)] (fun w => St _ _ _ w) st (by kernel_rfl) (by repeat (first | exact okQ_body | refine okQ_then ?_ | refine okQ_block ?_)) rfl (by kernel_rfl) ?_
   intro w cd; replace st := st.call0 cd; clear cd
   have hS := st
   iterate 2 refine vp_take rfl rfl rfl hS (fun w st => y_mv rfl) ?_
   refine vp_take rfl rfl rfl hS (fun w st => (by exact y_ia (k := j) rfl rfl underlying54 sizeOf60 rfl (by omega))) ?_
   refine vp_take rfl rfl rfl hS (fun w st => (by exact y_ldca (exL x o0 c0) rfl isAgg60 sizeOf60 rfl (fun i v hi => st.chg.cell (hc i v hi) (by simp)))) ?_
   iterate 2 refine vp_take rfl rfl rfl hS (fun w st => y_mv rfl) ?_
   refine vp_take rfl rfl rfl hS (fun w st => (by exact y_ia (k := j) rfl rfl underlying54 sizeOf60 rfl (by omega))) ?_
   refine vp_take rfl rfl rfl hS (fun w st => (by exact y_ldca (exL y o1 c1) rfl isAgg60 sizeOf60 rfl (fun i v hi => st.chg.cell (hd i v hi) (by simp)))) ?_
   refine vp_do rfl (e_call [_, _] rfl rfl call65 rfl (rsameE_any x y o0 o1 c0 c1 _ (hr0.kept (Same.of_nil st.chg)) (hr1.kept (Same.of_nil st.chg)) (fun w h1 h2 => ih _ hz2 x.kids rfl hkx.kids y.kids _ _ _ _ w h1 h2)) ?_)
   rintro _ w ⟨rfl, cw⟩
   replace st := st.call0 cw
   refine vp_next (by exact st) ?_; intro hS
   refine vp_take rfl rfl rfl hS (fun w st => y_not rfl) ?_
   refine vp_end (vq_then (vc_keep [(0, _), (1, _), (12, _), (13, _), (25, _)] ⟨rfl, rfl, rfl, rfl, rfl, trivial⟩ ?_))
   refine vc_ifs rfl ?_ ?_
   ·
    intro hc25
    try simp only [dn] at hc25
    refine vc_seq (vc_region ?_)
    refine vc_y rfl rfl (y_as rfl) ?_
    refine vc_end (vq_then (vc_keep [(4, _)] ⟨rfl, trivial⟩ (vc_ret (vq_block_ret (vq_then_ret (vq_then_ret (vq_block_ret (vq_then_ret ?_))))))))
    refine vq_ret1 st (.inl rfl) results54 (.tmp rfl) ?_
    refine ⟨_, rfl, ?_⟩
    refine ⟨?_, st.chg⟩
    rw [zipA_no hx hy (by assumption)]
   ·
    intro hc25
    try simp only [dn] at hc25
    refine vc_code_skip (vq_block (vq_then (vc_keep [(0, _), (1, _), (12, _), (13, _)] ⟨rfl, rfl, rfl, rfl, trivial⟩ (vc_region ?_))))
    refine vc_y rfl rfl (y_add rfl rfl (by omega : _ = ((j + 1 : Nat) : Int)) (by omega) (by omega)) ?_
    refine vc_y rfl rfl (y_mv rfl) ?_
    refine vc_end ?_
    refine vq_again (j + 1)  ⟨rfl, rfl, rfl, rfl, trivial⟩ (st.drop (by repeat (first | exact sl0 | apply sl1 | apply sl2))) ?_ ?_
    ·
     exact ⟨by omega, fun i x' y' hi h1 h2 => by
       rcases (by omega : i < j ∨ i = j) with h | rfl
       · exact hall i x' y' h h1 h2
       · rw [hx] at h1; rw [hy] at h2; cases h1; cases h2; assumption⟩
    ·
     omega
  ·
   intro hc14
   try simp only [dn] at hc14
   refine vc_exit (vq_then_exit (vq_then_exit (vq_block_exit (vq_then (vc_keep [] trivial (vc_seq (vc_region ?_)))))))
   refine vc_y rfl rfl (y_as rfl) ?_
   refine vc_end (vq_then (vc_keep [(4, _)] ⟨rfl, trivial⟩ (vc_ret ?_)))
   refine vq_ret1 st (.inl rfl) results54 (.tmp rfl) ?_
   refine ⟨_, rfl, ?_⟩
   refine ⟨?_, st.chg⟩
   rw [zipA_yes hlen fun i x y hi h1 h2 => hall i x y (by omega) h1 h2]

theorem rplaces_any : ∀ (n : Nat) (a : List Ex), szo a = n → OkEs a → ∀ (b : List Ex) (oa ob : Option Addr) (ca cb : Nat) (w : World), ExRow w S oa a → ExRow w S ob b →
    Ret Tryz.prog 37 [.slice oa a.length ca, .slice ob b.length cb] w fun v w' => v = .bool (zipA plE a b) ∧ Chg [] w w' := by
 intro n
 refine Nat.strongRecOn n fun n ih => ?_
 intro a hn hok b oa ob ca cb w hA hB
 subst hn
 have hn := hok.1
 refine ret_of [_, _] func37 rfl ntmps37 rfl ?_
 have st := St.init w []
 obtain ⟨w0, rfl⟩ : ∃ w0, w0 = w := ⟨_, rfl⟩
 refine vc_seq (vc_region ?_)
 refine vc_y rfl rfl (y_as rfl) ?_
 refine vc_end (vq_then (vc_keep [(0, _), (1, _)] ⟨rfl, rfl, trivial⟩ (vc_seq (vc_seq (vc_region ?_)))))
 refine vc_y rfl rfl (y_mv rfl) ?_
 refine vc_y rfl rfl (y_lensl rfl underlying54) ?_
 refine vc_y rfl rfl (y_mv rfl) ?_
 refine vc_y rfl rfl (y_lensl rfl underlying54) ?_
 refine vc_y rfl rfl (y_nei rfl rfl) ?_
 refine vc_end (vq_then (vc_keep [(0, _), (1, _), (10, _)] ⟨rfl, rfl, rfl, trivial⟩ ?_))
 refine vc_ifs rfl ?_ ?_
 ·
  intro hc10
  try simp only [dn] at hc10
  refine vc_seq (vc_region ?_)
  refine vc_y rfl rfl (y_as rfl) ?_
  refine vc_end (vq_then (vc_keep [(4, _)] ⟨rfl, trivial⟩ (vc_ret (vq_then_ret ?_))))
  refine vq_ret1 st (.inl rfl) results37 (.tmp rfl) ?_
  refine ⟨_, rfl, ?_⟩
  refine ⟨?_, st.chg⟩
  rw [zipA_len (by omega)]
 ·
  intro hc10
  try simp only [dn] at hc10
  have hlen : a.length = b.length := by omega
  refine vc_code_skip (vq_then (vc_keep [(0, _), (1, _)] ⟨rfl, rfl, trivial⟩ (vc_seq (vc_seq (vc_region ?_)))))
  refine vc_y rfl rfl (y_mv rfl) ?_
  refine vc_y rfl rfl (y_lensl rfl underlying54) ?_
  refine vc_y rfl rfl (y_mv rfl) ?_
  refine vc_end (vq_then (vc_keep [(0, _), (1, _), (12, _), (13, _)] ⟨rfl, rfl, rfl, rfl, trivial⟩ (vc_block ?_)))
  refine vc_loop (w0 := w0) (M := []) (fun (j : Nat) => [(0, .slice oa a.length ca), (1, .slice ob b.length cb), (12, .int .i64 (a.length : Int)), (13, .int .i64 (j : Int))]) (fun _ => []) (fun j _ => j ≤ a.length ∧ ∀ (i : Nat) x y, i < j → a[i]? = some x → b[i]? = some y → plE x y = true) (fun j => a.length - j) 0 ⟨rfl, rfl, rfl, rfl, trivial⟩ (st.drop (by repeat (first | exact sl0 | apply sl1 | apply sl2))) ⟨by omega, fun i x y h => by omega⟩ ?_
  clear st
  rintro j w ⟨hj, hall⟩ st
  refine vc_seq (vc_region ?_)
  refine vc_y rfl rfl (y_lss rfl rfl) ?_
  refine vc_end (vq_then (vc_keep [(0, _), (1, _), (12, _), (13, _), (14, _)] ⟨rfl, rfl, rfl, rfl, rfl, trivial⟩ (vc_seq ?_)))
  refine vc_ifs rfl ?_ ?_
  ·
   intro hc14
   try simp only [dn] at hc14
   obtain ⟨x, hx⟩ : ∃ x, a[j]? = some x := ⟨_, List.getElem?_eq_getElem (by omega)⟩
   obtain ⟨y, hy⟩ : ∃ y, b[j]? = some y := ⟨_, List.getElem?_eq_getElem (by omega)⟩
   obtain ⟨gb, go, rfl, hgS, hgl, hg⟩ := ExRow.at hA (by omega)
   obtain ⟨fb, fo, rfl, hfS, hfl, hf⟩ := ExRow.at hB (by omega)
   obtain ⟨o0, c0, hV0, hr0, hc⟩ := hg j x hx
   obtain ⟨o1, c1, hV1, hr1, hd⟩ := hf j y hy
   have hkx := hok.2 j x hx
   have hz := mem_size hx
   have hz2 : szo x.kids < szo a := by have := szo_kids x; omega
   refine vc_code_skip (vq_then (vc_keep [(0, _), (1, _), (12, _), (13, _)] ⟨rfl, rfl, rfl, rfl, trivial⟩ (vc_seq (vc_block (vc_seq (vc_region ?_))))))
   refine vc_y rfl rfl (y_mv rfl) ?_
   refine vc_y rfl rfl (y_as rfl) ?_
   refine vc_end (vq_then (vc_keep [(0, _), (1, _), (5, _), (12, _), (13, _)] ⟨rfl, rfl, rfl, rfl, rfl, trivial⟩ (vc_seq ?_)))
   refine vc_draw Tryz.mixed [(0, true), (1, true), (2, true), (3, true), (4, true), (5, true), (6, true), (7, true), (8, true), (9, true), (10, true), (11, true), (12, true), (13, true), (14, true), (15, true), (16, true), (17, true), (18, true), (19, true), (20, true), (21, true), (22, false), (23, true), (24, true)] (fun w => St _ _ _ w) st (by kernel_rfl) (by repeat (first | exact okQ_body | refine okQ_then ?_ | refine okQ_block ?_)) rfl (by kernel_rfl) ?_
   intro w cd; replace st := st.call0 cd; clear cd
   have hS := st
   iterate 2 refine vp_take rfl rfl rfl hS (fun w st => y_mv rfl) ?_
   refine vp_take rfl rfl rfl hS (fun w st => (by exact y_ia (k := j) rfl rfl underlying54 sizeOf60 rfl (by omega))) ?_
   refine vp_take rfl rfl rfl hS (fun w st => (by exact y_fa (k := 5) rfl underlying60 rfl rfl sizeOf3 rfl)) ?_
   refine vp_take rfl rfl rfl hS (fun w st => (by exact y_ldc rfl isAgg3 (st.chg.cell (hc 5 _ rfl) (by simp)))) ?_
   iterate 2 refine vp_take rfl rfl rfl hS (fun w st => y_mv rfl) ?_
   refine vp_take rfl rfl rfl hS (fun w st => (by exact y_ia (k := j) rfl rfl underlying54 sizeOf60 rfl (by omega))) ?_
   refine vp_take rfl rfl rfl hS (fun w st => (by exact y_fa (k := 5) rfl underlying60 rfl rfl sizeOf3 rfl)) ?_
   refine vp_take rfl rfl rfl hS (fun w st => (by exact y_ldc rfl isAgg3 (st.chg.cell (hd 5 _ rfl) (by simp)))) ?_
   refine vp_take rfl rfl rfl hS (fun w st => y_nei rfl rfl) ?_
   refine vp_part rfl rfl rfl hS rfl ?_ ?_
   ·
    intro hg27
    try simp only [dn] at hg27
    iterate 10 refine vp_skip rfl rfl rfl hS ?_
    refine vp_do rfl (e_skip rfl rfl (vp_next hS (fun hS => ?_)))
    refine vp_skip rfl rfl rfl hS ?_
    refine vp_take rfl rfl rfl hS (fun w st => y_pickt rfl rfl) ?_
    refine vp_end (vq_then (vc_keep [(0, _), (1, _), (12, _), (13, _), (40, _)] ⟨rfl, rfl, rfl, rfl, rfl, trivial⟩ ?_))
    refine vc_ift rfl ?_
    refine vc_seq (vc_region ?_)
    refine vc_y rfl rfl (y_as rfl) ?_
    refine vc_end (vq_then (vc_keep [(4, _)] ⟨rfl, trivial⟩ (vc_ret (vq_block_ret (vq_then_ret (vq_then_ret (vq_block_ret (vq_then_ret ?_))))))))
    refine vq_ret1 st (.inl rfl) results37 (.tmp rfl) ?_
    refine ⟨_, rfl, ?_⟩
    refine ⟨?_, st.chg⟩
    rw [zipA_no hx hy (by rw [plE_eq]; simp_all)]
   ·
    intro hg27
    try simp only [dn] at hg27
    iterate 2 refine vp_take rfl rfl rfl hS (fun w st => y_mv rfl) ?_
    refine vp_take rfl rfl rfl hS (fun w st => (by exact y_ia (k := j) rfl rfl underlying54 sizeOf60 rfl (by omega))) ?_
    refine vp_take rfl rfl rfl hS (fun w st => (by exact y_fa (k := 4) rfl underlying60 rfl rfl sizeOf54 rfl)) ?_
    refine vp_take rfl rfl rfl hS (fun w st => (by exact y_ldc rfl isAgg54 (st.chg.cell (hc 4 _ rfl) (by simp)))) ?_
    iterate 2 refine vp_take rfl rfl rfl hS (fun w st => y_mv rfl) ?_
    refine vp_take rfl rfl rfl hS (fun w st => (by exact y_ia (k := j) rfl rfl underlying54 sizeOf60 rfl (by omega))) ?_
    refine vp_take rfl rfl rfl hS (fun w st => (by exact y_fa (k := 4) rfl underlying60 rfl rfl sizeOf54 rfl)) ?_
    refine vp_take rfl rfl rfl hS (fun w st => (by exact y_ldc rfl isAgg54 (st.chg.cell (hd 4 _ rfl) (by simp)))) ?_
    refine vp_do rfl (e_call [_, _] rfl rfl call37 rfl (ih _ hz2 x.kids rfl hkx.kids y.kids _ _ _ _ _ (hr0.kept (Same.of_nil st.chg)) (hr1.kept (Same.of_nil st.chg))) ?_)
    rintro _ w ⟨rfl, cw⟩
    replace st := st.call0 cw
    refine vp_next (by exact st) ?_; intro hS
    refine vp_take rfl rfl rfl hS (fun w st => y_not rfl) ?_
    refine vp_take rfl rfl rfl hS (fun w st => y_pickf rfl rfl) ?_
    refine vp_end (vq_then (vc_keep [(0, _), (1, _), (12, _), (13, _), (40, _)] ⟨rfl, rfl, rfl, rfl, rfl, trivial⟩ ?_))
    refine vc_ifs rfl ?_ ?_
    ·
     intro hc40
     try simp only [dn] at hc40
     refine vc_seq (vc_region ?_)
     refine vc_y rfl rfl (y_as rfl) ?_
     refine vc_end (vq_then (vc_keep [(4, _)] ⟨rfl, trivial⟩ (vc_ret (vq_block_ret (vq_then_ret (vq_then_ret (vq_block_ret (vq_then_ret ?_))))))))
     refine vq_ret1 st (.inl rfl) results37 (.tmp rfl) ?_
     refine ⟨_, rfl, ?_⟩
     refine ⟨?_, st.chg⟩
     rw [zipA_no hx hy (by rw [plE_eq]; simp_all)]
    ·
     intro hc40
     try simp only [dn] at hc40
     refine vc_code_skip (vq_block (vq_then (vc_keep [(0, _), (1, _), (12, _), (13, _)] ⟨rfl, rfl, rfl, rfl, trivial⟩ (vc_region ?_))))
     refine vc_y rfl rfl (y_add rfl rfl (by omega : _ = ((j + 1 : Nat) : Int)) (by omega) (by omega)) ?_
     refine vc_y rfl rfl (y_mv rfl) ?_
     refine vc_end ?_
     refine vq_again (j + 1)  ⟨rfl, rfl, rfl, rfl, trivial⟩ (st.drop (by repeat (first | exact sl0 | apply sl1 | apply sl2))) ?_ ?_
     ·
      exact ⟨by omega, fun i x' y' hi h1 h2 => by
        rcases (by omega : i < j ∨ i = j) with h | rfl
        · exact hall i x' y' h h1 h2
        · rw [hx] at h1; rw [hy] at h2; cases h1; cases h2; (rw [plE_eq]; simp_all)⟩
     ·
      omega
  ·
   intro hc14
   try simp only [dn] at hc14
   refine vc_exit (vq_then_exit (vq_then_exit (vq_block_exit (vq_then (vc_keep [] trivial (vc_seq (vc_region ?_)))))))
   refine vc_y rfl rfl (y_as rfl) ?_
   refine vc_end (vq_then (vc_keep [(4, _)] ⟨rfl, trivial⟩ (vc_ret ?_)))
   refine vq_ret1 st (.inl rfl) results37 (.tmp rfl) ?_
   refine ⟨_, rfl, ?_⟩
   refine ⟨?_, st.chg⟩
   rw [zipA_yes hlen fun i x y hi h1 h2 => hall i x y (by omega) h1 h2]

set_option maxHeartbeats 1000000 in
theorem rstmtsS_any : ∀ (n : Nat) (a : List Sm), szo a = n → OkSs a → ∀ (b : List Sm) (oa ob : Option Addr) (ca cb : Nat) (w : World), SmRow w S oa a → SmRow w S ob b →
    Ret Tryz.prog 36 [.slice oa a.length ca, .slice ob b.length cb] w fun v w' => v = .bool (zipA sameS a b) ∧ Chg [] w w' := by
 intro n
 refine Nat.strongRecOn n fun n ih => ?_
 intro a hn hok b oa ob ca cb w hA hB
 subst hn
 have hn := hok.1
 refine ret_of [_, _] func36 rfl ntmps36 rfl ?_
 have st := St.init w []
 obtain ⟨w0, rfl⟩ : ∃ w0, w0 = w := ⟨_, rfl⟩
 refine vc_seq (vc_region ?_)
 refine vc_y rfl rfl (y_as rfl) ?_
 refine vc_end (vq_then (vc_keep [(0, _), (1, _)] ⟨rfl, rfl, trivial⟩ (vc_seq (vc_seq (vc_region ?_)))))
 refine vc_y rfl rfl (y_mv rfl) ?_
 refine vc_y rfl rfl (y_lensl rfl underlying48) ?_
 refine vc_y rfl rfl (y_mv rfl) ?_
 refine vc_y rfl rfl (y_lensl rfl underlying48) ?_
 refine vc_y rfl rfl (y_nei rfl rfl) ?_
 refine vc_end (vq_then (vc_keep [(0, _), (1, _), (12, _)] ⟨rfl, rfl, rfl, trivial⟩ ?_))
 refine vc_ifs rfl ?_ ?_
 ·
  intro hc12
  try simp only [dn] at hc12
  refine vc_seq (vc_region ?_)
  refine vc_y rfl rfl (y_as rfl) ?_
  refine vc_end (vq_then (vc_keep [(4, _)] ⟨rfl, trivial⟩ (vc_ret (vq_then_ret ?_))))
  refine vq_ret1 st (.inl rfl) results36 (.tmp rfl) ?_
  refine ⟨_, rfl, ?_⟩
  refine ⟨?_, st.chg⟩
  rw [zipA_len (by omega)]
 ·
  intro hc12
  try simp only [dn] at hc12
  have hlen : a.length = b.length := by omega
  refine vc_code_skip (vq_then (vc_keep [(0, _), (1, _)] ⟨rfl, rfl, trivial⟩ (vc_seq (vc_seq (vc_region ?_)))))
  refine vc_y rfl rfl (y_mv rfl) ?_
  refine vc_y rfl rfl (y_lensl rfl underlying48) ?_
  refine vc_y rfl rfl (y_mv rfl) ?_
  refine vc_end (vq_then (vc_keep [(0, _), (1, _), (14, _), (15, _)] ⟨rfl, rfl, rfl, rfl, trivial⟩ (vc_block ?_)))
  refine vc_loop (w0 := w0) (M := []) (fun (j : Nat) => [(0, .slice oa a.length ca), (1, .slice ob b.length cb), (14, .int .i64 (a.length : Int)), (15, .int .i64 (j : Int))]) (fun _ => []) (fun j _ => j ≤ a.length ∧ ∀ (i : Nat) x y, i < j → a[i]? = some x → b[i]? = some y → sameS x y = true) (fun j => a.length - j) 0 ⟨rfl, rfl, rfl, rfl, trivial⟩ (st.drop (by repeat (first | exact sl0 | apply sl1 | apply sl2))) ⟨by omega, fun i x y h => by omega⟩ ?_
  clear st
  rintro j w ⟨hj, hall⟩ st
  refine vc_seq (vc_region ?_)
  refine vc_y rfl rfl (y_lss rfl rfl) ?_
  refine vc_end (vq_then (vc_keep [(0, _), (1, _), (14, _), (15, _), (16, _)] ⟨rfl, rfl, rfl, rfl, rfl, trivial⟩ (vc_seq ?_)))
  refine vc_ifs rfl ?_ ?_
  ·
   intro hc16
   try simp only [dn] at hc16
   obtain ⟨x, hx⟩ : ∃ x, a[j]? = some x := ⟨_, List.getElem?_eq_getElem (by omega)⟩
   obtain ⟨y, hy⟩ : ∃ y, b[j]? = some y := ⟨_, List.getElem?_eq_getElem (by omega)⟩
   obtain ⟨gb, go, rfl, hgS, hgl, hg⟩ := SmRow.at hA (by omega)
   obtain ⟨fb, fo, rfl, hfS, hfl, hf⟩ := SmRow.at hB (by omega)
   obtain ⟨oe, obb, ol, ce, cbb, cl, hsV, hse, hsb, hsl, hc⟩ := hg j x hx
   obtain ⟨oe', obb', ol', ce', cbb', cl', hsV', hse', hsb', hsl', hd⟩ := hf j y hy
   have hkx := hok.2 j x hx
   have hz := mem_size hx
   have hB2 : szo x.body < szo a := by have : szo x.body < szo x := by cases x; exact sm_size.1
                                       omega
   have hL2 : szo x.els < szo a := by have : szo x.els < szo x := by cases x; exact sm_size.2
                                      omega
   refine vc_code_skip (vq_then (vc_keep [(0, _), (1, _), (14, _), (15, _)] ⟨rfl, rfl, rfl, rfl, trivial⟩ (vc_seq (vc_block (vc_seq (vc_region ?_))))))
   refine vc_y rfl rfl (y_mv rfl) ?_
   refine vc_y rfl rfl (y_as rfl) ?_
   refine vc_end (vq_then (vc_keep [(0, _), (1, _), (5, _), (14, _), (15, _)] ⟨rfl, rfl, rfl, rfl, rfl, trivial⟩ ?_))
   refine vc_cut (w0 := w0) (M := []) (fun (z : Nat × Nat) => [(0, .slice (some ⟨gb, go, none⟩) a.length ca), (1, .slice (some ⟨fb, fo, none⟩) b.length cb), (6, .pointer (some ⟨z.1, 0, none⟩)), (7, .pointer (some ⟨z.2, 0, none⟩)), (14, .int .i64 (a.length : Int)), (15, .int .i64 (j : Int))]) (fun z => [.blk z.1 (.cells [.int .u8 x.k, str x.nm, str x.other, .slice oe x.e.length ce, .slice obb x.body.length cbb, .slice ol x.els.length cl, .int .i64 x.a].toArray 56 (0, 0)), .blk z.2 (.cells [.int .u8 y.k, str y.nm, str y.other, .slice oe' y.e.length ce', .slice obb' y.body.length cbb', .slice ol' y.els.length cl', .int .i64 y.a].toArray 56 (0, 0))]) (fun _ _ => True) ?_ ?_
   ·
    refine vd_draw Tryz.mixed (.take 0 (.take 1 (.take 2 (.take 3 (.take 4 (.take 5 (.take 6 (.take 7 (.two 8 9 (.one 9 (.one 10 (.one 11 .done))) (.one 8 (.one 10 (.one 11 .done)))))))))))) (fun w => St _ _ _ w) st (by kernel_rfl) (by repeat (first | exact okQ_body | refine okQ_then ?_ | refine okQ_block ?_)) rfl (by kernel_rfl) ?_
    intro w cd; replace st := st.call0 cd; clear cd
    have hS := st
    iterate 2 refine vd_take rfl rfl rfl hS (fun w st => y_mv rfl) ?_
    refine vd_take rfl rfl rfl hS (fun w st => (by exact y_ia (k := j) rfl rfl underlying48 sizeOf56 rfl (by omega))) ?_
    refine vd_take rfl rfl rfl hS (fun w st => (by exact y_ldca (smL x oe obb ol ce cbb cl) rfl isAgg56 sizeOf56 rfl (fun i v hi => st.chg.cell (hc i v hi) (by simp)))) ?_
    iterate 2 refine vd_take rfl rfl rfl hS (fun w st => y_mv rfl) ?_
    refine vd_take rfl rfl rfl hS (fun w st => (by exact y_ia (k := j) rfl rfl underlying48 sizeOf56 rfl (by omega))) ?_
    refine vd_take rfl rfl rfl hS (fun w st => (by exact y_ldca (smL y oe' obb' ol' ce' cbb' cl') rfl isAgg56 sizeOf56 rfl (fun i v hi => st.chg.cell (hd i v hi) (by simp)))) ?_
    refine vd_two rfl rfl ?_ ?_
    ·
     refine (e_al (l := [_, _, _, _, _, _, _]) st rfl rfl zeroValue56 rfl ?_)
     intro b6 w hb6 st
     refine vd_next (by exact st.drop (by repeat (first | exact sl0 | apply sl1 | apply sl2))) ?_; intro hS
     refine vd_do rfl (e_al (l := [_, _, _, _, _, _, _]) st rfl rfl zeroValue56 rfl ?_)
     intro b7 w hb7 st
     refine vd_next (by exact st.drop (by repeat (first | exact sl0 | apply sl1 | apply sl2))) ?_; intro hS
     refine vd_do rfl (e_sts (vs := [_, _, _, _, _, _, _]) st 1 rfl rfl rfl rfl rfl sizeOf56 rfl rfl (by first | (right; assumption) | (left; simp)) ?_)
     intro w st; dsimp only [setNth, wr] at st
     refine vd_next (by exact st.drop (by repeat (first | exact sl0 | apply sl1 | apply sl2))) ?_; intro hS
     refine vd_do rfl (e_sts (vs := [_, _, _, _, _, _, _]) st 0 rfl rfl rfl rfl rfl sizeOf56 rfl rfl (by first | (right; assumption) | (left; simp)) ?_)
     intro w st; dsimp only [setNth, wr] at st
     refine vd_next (by exact st.drop (by repeat (first | exact sl0 | apply sl1 | apply sl2))) ?_; intro hS
     refine vd_end ?_
     refine vq_meet (b6, b7) ⟨rfl, rfl, rfl, rfl, rfl, rfl, trivial⟩ (st.pick [1, 0] rfl (by decide)) ?_
     ·
      trivial
    ·
     refine (e_al (l := [_, _, _, _, _, _, _]) st rfl rfl zeroValue56 rfl ?_)
     intro b7 w hb7 st
     refine vd_next (by exact st.drop (by repeat (first | exact sl0 | apply sl1 | apply sl2))) ?_; intro hS
     refine vd_do rfl (e_al (l := [_, _, _, _, _, _, _]) st rfl rfl zeroValue56 rfl ?_)
     intro b6 w hb6 st
     refine vd_next (by exact st.drop (by repeat (first | exact sl0 | apply sl1 | apply sl2))) ?_; intro hS
     refine vd_do rfl (e_sts (vs := [_, _, _, _, _, _, _]) st 0 rfl rfl rfl rfl rfl sizeOf56 rfl rfl (by first | (right; assumption) | (left; simp)) ?_)
     intro w st; dsimp only [setNth, wr] at st
     refine vd_next (by exact st.drop (by repeat (first | exact sl0 | apply sl1 | apply sl2))) ?_; intro hS
     refine vd_do rfl (e_sts (vs := [_, _, _, _, _, _, _]) st 1 rfl rfl rfl rfl rfl sizeOf56 rfl rfl (by first | (right; assumption) | (left; simp)) ?_)
     intro w st; dsimp only [setNth, wr] at st
     refine vd_next (by exact st.drop (by repeat (first | exact sl0 | apply sl1 | apply sl2))) ?_; intro hS
     refine vd_end ?_
     refine vq_meet (b6, b7) ⟨rfl, rfl, rfl, rfl, rfl, rfl, trivial⟩ st ?_
     ·
      trivial
   ·
    clear st
    rintro ⟨b6, b7⟩ w - st
    dsimp only at *
    refine vc_seq (vc_region ?_)
    refine vc_y rfl rfl (y_fa0 rfl underlying56 rfl rfl sizeOf53 rfl) ?_
    refine vc_y rfl rfl ((by exact y_ld st 0 rfl isAgg53 rfl rfl)) ?_
    refine vc_y rfl rfl (y_fa0 rfl underlying56 rfl rfl sizeOf53 rfl) ?_
    refine vc_y rfl rfl ((by exact y_ld st 1 rfl isAgg53 rfl rfl)) ?_
    refine vc_y rfl rfl (y_nei rfl rfl) ?_
    refine vc_e (e_mvb rfl rfl rfl ?_ ?_)
    ·
     intro hg31
     try simp only [dn] at hg31
     iterate 5 refine vc_e (e_skip rfl rfl ?_)
     refine vc_y rfl rfl (y_pickt rfl rfl) ?_
     refine vc_y rfl rfl (y_mv rfl) ?_
     iterate 5 refine vc_e (e_skip rfl rfl ?_)
     refine vc_y rfl rfl (y_pickt rfl rfl) ?_
     refine vc_y rfl rfl (y_mv rfl) ?_
     iterate 6 refine vc_e (e_skip rfl rfl ?_)
     refine vc_y rfl rfl (y_pickt rfl rfl) ?_
     refine vc_y rfl rfl (y_mv rfl) ?_
     iterate 6 refine vc_e (e_skip rfl rfl ?_)
     refine vc_y rfl rfl (y_pickt rfl rfl) ?_
     refine vc_y rfl rfl (y_mv rfl) ?_
     iterate 6 refine vc_e (e_skip rfl rfl ?_)
     refine vc_y rfl rfl (y_pickt rfl rfl) ?_
     refine vc_end (vq_then (vc_keep [(0, _), (1, _), (14, _), (15, _), (68, _)] ⟨rfl, rfl, rfl, rfl, rfl, trivial⟩ ?_))
     refine vc_ift rfl ?_
     refine vc_seq (vc_region ?_)
     refine vc_y rfl rfl (y_as rfl) ?_
     refine vc_end (vq_then (vc_keep [(4, _)] ⟨rfl, trivial⟩ (vc_ret (vq_block_ret (vq_then_ret (vq_then_ret (vq_block_ret (vq_then_ret ?_))))))))
     refine vq_ret1 st (.inl rfl) results36 (.tmp rfl) ?_
     refine ⟨_, rfl, ?_⟩
     refine ⟨?_, st.chg⟩
     rw [zipA_no hx hy (by rw [sameS_eq]; clear st; simp_all)]
    ·
     intro hg31
     try simp only [dn] at hg31
     refine vc_y rfl rfl ((by exact y_faz (k := 1) rfl underlying56 rfl rfl sizeOf9 rfl)) ?_
     refine vc_y rfl rfl ((by exact y_ld st 0 rfl isAgg9 rfl rfl)) ?_
     refine vc_y rfl rfl ((by exact y_faz (k := 1) rfl underlying56 rfl rfl sizeOf9 rfl)) ?_
     refine vc_y rfl rfl ((by exact y_ld st 1 rfl isAgg9 rfl rfl)) ?_
     refine vc_y rfl rfl (y_nes rfl rfl) ?_
     refine vc_y rfl rfl (y_pickf rfl rfl) ?_
     refine vc_e (e_mvb rfl rfl rfl ?_ ?_)
     ·
      intro hg38
      try simp only [dn] at hg38
      iterate 5 refine vc_e (e_skip rfl rfl ?_)
      refine vc_y rfl rfl (y_pickt rfl rfl) ?_
      refine vc_y rfl rfl (y_mv rfl) ?_
      iterate 6 refine vc_e (e_skip rfl rfl ?_)
      refine vc_y rfl rfl (y_pickt rfl rfl) ?_
      refine vc_y rfl rfl (y_mv rfl) ?_
      iterate 6 refine vc_e (e_skip rfl rfl ?_)
      refine vc_y rfl rfl (y_pickt rfl rfl) ?_
      refine vc_y rfl rfl (y_mv rfl) ?_
      iterate 6 refine vc_e (e_skip rfl rfl ?_)
      refine vc_y rfl rfl (y_pickt rfl rfl) ?_
      refine vc_end (vq_then (vc_keep [(0, _), (1, _), (14, _), (15, _), (68, _)] ⟨rfl, rfl, rfl, rfl, rfl, trivial⟩ ?_))
      refine vc_ift rfl ?_
      refine vc_seq (vc_region ?_)
      refine vc_y rfl rfl (y_as rfl) ?_
      refine vc_end (vq_then (vc_keep [(4, _)] ⟨rfl, trivial⟩ (vc_ret (vq_block_ret (vq_then_ret (vq_then_ret (vq_block_ret (vq_then_ret ?_))))))))
      refine vq_ret1 st (.inl rfl) results36 (.tmp rfl) ?_
      refine ⟨_, rfl, ?_⟩
      refine ⟨?_, st.chg⟩
      rw [zipA_no hx hy (by rw [sameS_eq]; clear st; simp_all)]
     ·
      intro hg38
      try simp only [dn] at hg38
      refine vc_y rfl rfl ((by exact y_faz (k := 2) rfl underlying56 rfl rfl sizeOf9 rfl)) ?_
      refine vc_y rfl rfl ((by exact y_ld st 0 rfl isAgg9 rfl rfl)) ?_
      refine vc_y rfl rfl ((by exact y_faz (k := 2) rfl underlying56 rfl rfl sizeOf9 rfl)) ?_
      refine vc_y rfl rfl ((by exact y_ld st 1 rfl isAgg9 rfl rfl)) ?_
      refine vc_y rfl rfl (y_nes rfl rfl) ?_
      refine vc_y rfl rfl (y_pickf rfl rfl) ?_
      refine vc_e (e_mvb rfl rfl rfl ?_ ?_)
      ·
       intro hg45
       try simp only [dn] at hg45
       iterate 6 refine vc_e (e_skip rfl rfl ?_)
       refine vc_y rfl rfl (y_pickt rfl rfl) ?_
       refine vc_y rfl rfl (y_mv rfl) ?_
       iterate 6 refine vc_e (e_skip rfl rfl ?_)
       refine vc_y rfl rfl (y_pickt rfl rfl) ?_
       refine vc_y rfl rfl (y_mv rfl) ?_
       iterate 6 refine vc_e (e_skip rfl rfl ?_)
       refine vc_y rfl rfl (y_pickt rfl rfl) ?_
       refine vc_end (vq_then (vc_keep [(0, _), (1, _), (14, _), (15, _), (68, _)] ⟨rfl, rfl, rfl, rfl, rfl, trivial⟩ ?_))
       refine vc_ift rfl ?_
       refine vc_seq (vc_region ?_)
       refine vc_y rfl rfl (y_as rfl) ?_
       refine vc_end (vq_then (vc_keep [(4, _)] ⟨rfl, trivial⟩ (vc_ret (vq_block_ret (vq_then_ret (vq_then_ret (vq_block_ret (vq_then_ret ?_))))))))
       refine vq_ret1 st (.inl rfl) results36 (.tmp rfl) ?_
       refine ⟨_, rfl, ?_⟩
       refine ⟨?_, st.chg⟩
       rw [zipA_no hx hy (by rw [sameS_eq]; clear st; simp_all)]
      ·
       intro hg45
       try simp only [dn] at hg45
       refine vc_y rfl rfl ((by exact y_faz (k := 3) rfl underlying56 rfl rfl sizeOf54 rfl)) ?_
       refine vc_y rfl rfl ((by exact y_ld st 0 rfl isAgg54 rfl rfl)) ?_
       refine vc_y rfl rfl ((by exact y_faz (k := 3) rfl underlying56 rfl rfl sizeOf54 rfl)) ?_
       refine vc_y rfl rfl ((by exact y_ld st 1 rfl isAgg54 rfl rfl)) ?_
       refine vc_e (e_call [_, _] rfl rfl call54 rfl (rexprsS_any _ x.e rfl hkx.e y.e _ _ _ _ _ (hse.kept (Same.of_nil st.chg)) (hse'.kept (Same.of_nil st.chg))) ?_)
       rintro _ w ⟨rfl, cw⟩
       replace st := st.call0 cw
       refine vc_y rfl rfl (y_not rfl) ?_
       refine vc_y rfl rfl (y_pickf rfl rfl) ?_
       refine vc_e (e_mvb rfl rfl rfl ?_ ?_)
       ·
        intro hg53
        try simp only [dn] at hg53
        iterate 6 refine vc_e (e_skip rfl rfl ?_)
        refine vc_y rfl rfl (y_pickt rfl rfl) ?_
        refine vc_y rfl rfl (y_mv rfl) ?_
        iterate 6 refine vc_e (e_skip rfl rfl ?_)
        refine vc_y rfl rfl (y_pickt rfl rfl) ?_
        refine vc_end (vq_then (vc_keep [(0, _), (1, _), (14, _), (15, _), (68, _)] ⟨rfl, rfl, rfl, rfl, rfl, trivial⟩ ?_))
        refine vc_ift rfl ?_
        refine vc_seq (vc_region ?_)
        refine vc_y rfl rfl (y_as rfl) ?_
        refine vc_end (vq_then (vc_keep [(4, _)] ⟨rfl, trivial⟩ (vc_ret (vq_block_ret (vq_then_ret (vq_then_ret (vq_block_ret (vq_then_ret ?_))))))))
        refine vq_ret1 st (.inl rfl) results36 (.tmp rfl) ?_
        refine ⟨_, rfl, ?_⟩
        refine ⟨?_, st.chg⟩
        rw [zipA_no hx hy (by rw [sameS_eq]; clear st; simp_all)]
       ·
        intro hg53
        try simp only [dn] at hg53
        refine vc_y rfl rfl ((by exact y_faz (k := 4) rfl underlying56 rfl rfl sizeOf48 rfl)) ?_
        refine vc_y rfl rfl ((by exact y_ld st 0 rfl isAgg48 rfl rfl)) ?_
        refine vc_y rfl rfl ((by exact y_faz (k := 4) rfl underlying56 rfl rfl sizeOf48 rfl)) ?_
        refine vc_y rfl rfl ((by exact y_ld st 1 rfl isAgg48 rfl rfl)) ?_
        refine vc_e (e_call [_, _] rfl rfl call36 rfl (ih _ hB2 x.body rfl hkx.body y.body _ _ _ _ _ (hsb.kept (Same.of_nil st.chg)) (hsb'.kept (Same.of_nil st.chg))) ?_)
        rintro _ w ⟨rfl, cw⟩
        replace st := st.call0 cw
        refine vc_y rfl rfl (y_not rfl) ?_
        refine vc_y rfl rfl (y_pickf rfl rfl) ?_
        refine vc_e (e_mvb rfl rfl rfl ?_ ?_)
        ·
         intro hg61
         try simp only [dn] at hg61
         iterate 6 refine vc_e (e_skip rfl rfl ?_)
         refine vc_y rfl rfl (y_pickt rfl rfl) ?_
         refine vc_end (vq_then (vc_keep [(0, _), (1, _), (14, _), (15, _), (68, _)] ⟨rfl, rfl, rfl, rfl, rfl, trivial⟩ ?_))
         refine vc_ift rfl ?_
         refine vc_seq (vc_region ?_)
         refine vc_y rfl rfl (y_as rfl) ?_
         refine vc_end (vq_then (vc_keep [(4, _)] ⟨rfl, trivial⟩ (vc_ret (vq_block_ret (vq_then_ret (vq_then_ret (vq_block_ret (vq_then_ret ?_))))))))
         refine vq_ret1 st (.inl rfl) results36 (.tmp rfl) ?_
         refine ⟨_, rfl, ?_⟩
         refine ⟨?_, st.chg⟩
         rw [zipA_no hx hy (by rw [sameS_eq]; clear st; simp_all)]
        ·
         intro hg61
         try simp only [dn] at hg61
         refine vc_y rfl rfl ((by exact y_faz (k := 5) rfl underlying56 rfl rfl sizeOf48 rfl)) ?_
         refine vc_y rfl rfl ((by exact y_ld st 0 rfl isAgg48 rfl rfl)) ?_
         refine vc_y rfl rfl ((by exact y_faz (k := 5) rfl underlying56 rfl rfl sizeOf48 rfl)) ?_
         refine vc_y rfl rfl ((by exact y_ld st 1 rfl isAgg48 rfl rfl)) ?_
         refine vc_e (e_call [_, _] rfl rfl call36 rfl (ih _ hL2 x.els rfl hkx.els y.els _ _ _ _ _ (hsl.kept (Same.of_nil st.chg)) (hsl'.kept (Same.of_nil st.chg))) ?_)
         rintro _ w ⟨rfl, cw⟩
         replace st := st.call0 cw
         refine vc_y rfl rfl (y_not rfl) ?_
         refine vc_y rfl rfl (y_pickf rfl rfl) ?_
         refine vc_end (vq_then (vc_keep [(0, _), (1, _), (14, _), (15, _), (68, _)] ⟨rfl, rfl, rfl, rfl, rfl, trivial⟩ ?_))
         refine vc_ifs rfl ?_ ?_
         ·
          intro hc68
          try simp only [dn] at hc68
          refine vc_seq (vc_region ?_)
          refine vc_y rfl rfl (y_as rfl) ?_
          refine vc_end (vq_then (vc_keep [(4, _)] ⟨rfl, trivial⟩ (vc_ret (vq_block_ret (vq_then_ret (vq_then_ret (vq_block_ret (vq_then_ret ?_))))))))
          refine vq_ret1 st (.inl rfl) results36 (.tmp rfl) ?_
          refine ⟨_, rfl, ?_⟩
          refine ⟨?_, st.chg⟩
          rw [zipA_no hx hy (by rw [sameS_eq]; clear st; simp_all)]
         ·
          intro hc68
          try simp only [dn] at hc68
          refine vc_code_skip (vq_block (vq_then (vc_keep [(0, _), (1, _), (14, _), (15, _)] ⟨rfl, rfl, rfl, rfl, trivial⟩ (vc_region ?_))))
          refine vc_y rfl rfl (y_add rfl rfl (by omega : _ = ((j + 1 : Nat) : Int)) (by omega) (by omega)) ?_
          refine vc_y rfl rfl (y_mv rfl) ?_
          refine vc_end ?_
          refine vq_again (j + 1)  ⟨rfl, rfl, rfl, rfl, trivial⟩ (st.drop (by repeat (first | exact sl0 | apply sl1 | apply sl2))) ?_ ?_
          ·
           exact ⟨by omega, fun i x' y' hi h1 h2 => by
             rcases (by omega : i < j ∨ i = j) with h | rfl
             · exact hall i x' y' h h1 h2
             · rw [hx] at h1; rw [hy] at h2; cases h1; cases h2; (rw [sameS_eq]; clear st; simp_all)⟩
          ·
           omega
  ·
   intro hc16
   try simp only [dn] at hc16
   refine vc_exit (vq_then_exit (vq_then_exit (vq_block_exit (vq_then (vc_keep [] trivial (vc_seq (vc_region ?_)))))))
   refine vc_y rfl rfl (y_as rfl) ?_
   refine vc_end (vq_then (vc_keep [(4, _)] ⟨rfl, trivial⟩ (vc_ret ?_)))
   refine vq_ret1 st (.inl rfl) results36 (.tmp rfl) ?_
   refine ⟨_, rfl, ?_⟩
   refine ⟨?_, st.chg⟩
   rw [zipA_yes hlen fun i x y hi h1 h2 => hall i x y (by omega) h1 h2]

set_option maxHeartbeats 1000000 in
theorem rplacesS_any : ∀ (n : Nat) (a : List Sm), szo a = n → OkSs a → ∀ (b : List Sm) (oa ob : Option Addr) (ca cb : Nat) (w : World), SmRow w S oa a → SmRow w S ob b →
    Ret Tryz.prog 19 [.slice oa a.length ca, .slice ob b.length cb] w fun v w' => v = .bool (zipA plS a b) ∧ Chg [] w w' := by
 intro n
 refine Nat.strongRecOn n fun n ih => ?_
 intro a hn hok b oa ob ca cb w hA hB
 subst hn
 have hn := hok.1
 refine ret_of [_, _] func19 rfl ntmps19 rfl ?_
 have st := St.init w []
 obtain ⟨w0, rfl⟩ : ∃ w0, w0 = w := ⟨_, rfl⟩
 refine vc_seq (vc_region ?_)
 refine vc_y rfl rfl (y_as rfl) ?_
 refine vc_end (vq_then (vc_keep [(0, _), (1, _)] ⟨rfl, rfl, trivial⟩ (vc_seq (vc_seq (vc_region ?_)))))
 refine vc_y rfl rfl (y_mv rfl) ?_
 refine vc_y rfl rfl (y_lensl rfl underlying48) ?_
 refine vc_y rfl rfl (y_mv rfl) ?_
 refine vc_y rfl rfl (y_lensl rfl underlying48) ?_
 refine vc_y rfl rfl (y_nei rfl rfl) ?_
 refine vc_end (vq_then (vc_keep [(0, _), (1, _), (10, _)] ⟨rfl, rfl, rfl, trivial⟩ ?_))
 refine vc_ifs rfl ?_ ?_
 ·
  intro hc10
  try simp only [dn] at hc10
  refine vc_seq (vc_region ?_)
  refine vc_y rfl rfl (y_as rfl) ?_
  refine vc_end (vq_then (vc_keep [(4, _)] ⟨rfl, trivial⟩ (vc_ret (vq_then_ret ?_))))
  refine vq_ret1 st (.inl rfl) results19 (.tmp rfl) ?_
  refine ⟨_, rfl, ?_⟩
  refine ⟨?_, st.chg⟩
  rw [zipA_len (by omega)]
 ·
  intro hc10
  try simp only [dn] at hc10
  have hlen : a.length = b.length := by omega
  refine vc_code_skip (vq_then (vc_keep [(0, _), (1, _)] ⟨rfl, rfl, trivial⟩ (vc_seq (vc_seq (vc_region ?_)))))
  refine vc_y rfl rfl (y_mv rfl) ?_
  refine vc_y rfl rfl (y_lensl rfl underlying48) ?_
  refine vc_y rfl rfl (y_mv rfl) ?_
  refine vc_end (vq_then (vc_keep [(0, _), (1, _), (12, _), (13, _)] ⟨rfl, rfl, rfl, rfl, trivial⟩ (vc_block ?_)))
  refine vc_loop (w0 := w0) (M := []) (fun (j : Nat) => [(0, .slice oa a.length ca), (1, .slice ob b.length cb), (12, .int .i64 (a.length : Int)), (13, .int .i64 (j : Int))]) (fun _ => []) (fun j _ => j ≤ a.length ∧ ∀ (i : Nat) x y, i < j → a[i]? = some x → b[i]? = some y → plS x y = true) (fun j => a.length - j) 0 ⟨rfl, rfl, rfl, rfl, trivial⟩ (st.drop (by repeat (first | exact sl0 | apply sl1 | apply sl2))) ⟨by omega, fun i x y h => by omega⟩ ?_
  clear st
  rintro j w ⟨hj, hall⟩ st
  refine vc_seq (vc_region ?_)
  refine vc_y rfl rfl (y_lss rfl rfl) ?_
  refine vc_end (vq_then (vc_keep [(0, _), (1, _), (12, _), (13, _), (14, _)] ⟨rfl, rfl, rfl, rfl, rfl, trivial⟩ (vc_seq ?_)))
  refine vc_ifs rfl ?_ ?_
  ·
   intro hc14
   try simp only [dn] at hc14
   obtain ⟨x, hx⟩ : ∃ x, a[j]? = some x := ⟨_, List.getElem?_eq_getElem (by omega)⟩
   obtain ⟨y, hy⟩ : ∃ y, b[j]? = some y := ⟨_, List.getElem?_eq_getElem (by omega)⟩
   obtain ⟨gb, go, rfl, hgS, hgl, hg⟩ := SmRow.at hA (by omega)
   obtain ⟨fb, fo, rfl, hfS, hfl, hf⟩ := SmRow.at hB (by omega)
   obtain ⟨oe, obb, ol, ce, cbb, cl, hsV, hse, hsb, hsl, hc⟩ := hg j x hx
   obtain ⟨oe', obb', ol', ce', cbb', cl', hsV', hse', hsb', hsl', hd⟩ := hf j y hy
   have hkx := hok.2 j x hx
   have hz := mem_size hx
   have hB2 : szo x.body < szo a := by have : szo x.body < szo x := by cases x; exact sm_size.1
                                       omega
   have hL2 : szo x.els < szo a := by have : szo x.els < szo x := by cases x; exact sm_size.2
                                      omega
   refine vc_code_skip (vq_then (vc_keep [(0, _), (1, _), (12, _), (13, _)] ⟨rfl, rfl, rfl, rfl, trivial⟩ (vc_seq (vc_block (vc_seq (vc_region ?_))))))
   refine vc_y rfl rfl (y_mv rfl) ?_
   refine vc_y rfl rfl (y_as rfl) ?_
   refine vc_end (vq_then (vc_keep [(0, _), (1, _), (5, _), (12, _), (13, _)] ⟨rfl, rfl, rfl, rfl, rfl, trivial⟩ (vc_seq ?_)))
   refine vc_draw Tryz.mixed [(0, true), (1, true), (2, true), (3, true), (4, true), (5, true), (6, true), (7, true), (8, true), (9, true), (10, true), (11, true), (12, true), (13, true), (14, true), (15, true), (16, true), (17, true), (18, true), (19, true), (20, true), (21, true), (22, false), (23, true), (24, true), (25, true), (26, true), (27, true), (28, true), (29, true), (30, true), (31, true), (32, true), (33, true), (34, true), (35, true), (36, false), (37, true), (38, true), (39, true), (40, true), (41, true), (42, true), (43, true), (44, true), (45, true), (46, true), (47, true), (48, true), (49, true), (50, false), (51, true), (52, true)] (fun w => St _ _ _ w) st (by kernel_rfl) (by repeat (first | exact okQ_body | refine okQ_then ?_ | refine okQ_block ?_)) rfl (by kernel_rfl) ?_
   intro w cd; replace st := st.call0 cd; clear cd
   have hS := st
   iterate 2 refine vp_take rfl rfl rfl hS (fun w st => y_mv rfl) ?_
   refine vp_take rfl rfl rfl hS (fun w st => (by exact y_ia (k := j) rfl rfl underlying48 sizeOf56 rfl (by omega))) ?_
   refine vp_take rfl rfl rfl hS (fun w st => (by exact y_fa (k := 6) rfl underlying56 rfl rfl sizeOf3 rfl)) ?_
   refine vp_take rfl rfl rfl hS (fun w st => (by exact y_ldc rfl isAgg3 (st.chg.cell (hc 6 _ rfl) (by simp)))) ?_
   iterate 2 refine vp_take rfl rfl rfl hS (fun w st => y_mv rfl) ?_
   refine vp_take rfl rfl rfl hS (fun w st => (by exact y_ia (k := j) rfl rfl underlying48 sizeOf56 rfl (by omega))) ?_
   refine vp_take rfl rfl rfl hS (fun w st => (by exact y_fa (k := 6) rfl underlying56 rfl rfl sizeOf3 rfl)) ?_
   refine vp_take rfl rfl rfl hS (fun w st => (by exact y_ldc rfl isAgg3 (st.chg.cell (hd 6 _ rfl) (by simp)))) ?_
   refine vp_take rfl rfl rfl hS (fun w st => y_nei rfl rfl) ?_
   refine vp_part rfl rfl rfl hS rfl ?_ ?_
   ·
    intro hg27
    try simp only [dn] at hg27
    iterate 10 refine vp_skip rfl rfl rfl hS ?_
    refine vp_do rfl (e_skip rfl rfl (vp_next hS (fun hS => ?_)))
    refine vp_skip rfl rfl rfl hS ?_
    refine vp_take rfl rfl rfl hS (fun w st => y_pickt rfl rfl) ?_
    refine vp_take rfl rfl rfl hS (fun w st => y_mv rfl) ?_
    iterate 10 refine vp_skip rfl rfl rfl hS ?_
    refine vp_do rfl (e_skip rfl rfl (vp_next hS (fun hS => ?_)))
    refine vp_skip rfl rfl rfl hS ?_
    refine vp_take rfl rfl rfl hS (fun w st => y_pickt rfl rfl) ?_
    refine vp_take rfl rfl rfl hS (fun w st => y_mv rfl) ?_
    iterate 10 refine vp_skip rfl rfl rfl hS ?_
    refine vp_do rfl (e_skip rfl rfl (vp_next hS (fun hS => ?_)))
    refine vp_skip rfl rfl rfl hS ?_
    refine vp_take rfl rfl rfl hS (fun w st => y_pickt rfl rfl) ?_
    refine vp_end (vq_then (vc_keep [(0, _), (1, _), (12, _), (13, _), (68, _)] ⟨rfl, rfl, rfl, rfl, rfl, trivial⟩ ?_))
    refine vc_ift rfl ?_
    refine vc_seq (vc_region ?_)
    refine vc_y rfl rfl (y_as rfl) ?_
    refine vc_end (vq_then (vc_keep [(4, _)] ⟨rfl, trivial⟩ (vc_ret (vq_block_ret (vq_then_ret (vq_then_ret (vq_block_ret (vq_then_ret ?_))))))))
    refine vq_ret1 st (.inl rfl) results19 (.tmp rfl) ?_
    refine ⟨_, rfl, ?_⟩
    refine ⟨?_, st.chg⟩
    rw [zipA_no hx hy (by rw [plS_eq]; clear st; simp_all)]
   ·
    intro hg27
    try simp only [dn] at hg27
    iterate 2 refine vp_take rfl rfl rfl hS (fun w st => y_mv rfl) ?_
    refine vp_take rfl rfl rfl hS (fun w st => (by exact y_ia (k := j) rfl rfl underlying48 sizeOf56 rfl (by omega))) ?_
    refine vp_take rfl rfl rfl hS (fun w st => (by exact y_fa (k := 3) rfl underlying56 rfl rfl sizeOf54 rfl)) ?_
    refine vp_take rfl rfl rfl hS (fun w st => (by exact y_ldc rfl isAgg54 (st.chg.cell (hc 3 _ rfl) (by simp)))) ?_
    iterate 2 refine vp_take rfl rfl rfl hS (fun w st => y_mv rfl) ?_
    refine vp_take rfl rfl rfl hS (fun w st => (by exact y_ia (k := j) rfl rfl underlying48 sizeOf56 rfl (by omega))) ?_
    refine vp_take rfl rfl rfl hS (fun w st => (by exact y_fa (k := 3) rfl underlying56 rfl rfl sizeOf54 rfl)) ?_
    refine vp_take rfl rfl rfl hS (fun w st => (by exact y_ldc rfl isAgg54 (st.chg.cell (hd 3 _ rfl) (by simp)))) ?_
    refine vp_do rfl (e_call [_, _] rfl rfl call37 rfl (rplaces_any _ x.e rfl hkx.e y.e _ _ _ _ _ (hse.kept (Same.of_nil st.chg)) (hse'.kept (Same.of_nil st.chg))) ?_)
    rintro _ w ⟨rfl, cw⟩
    replace st := st.call0 cw
    refine vp_next (by exact st) ?_; intro hS
    refine vp_take rfl rfl rfl hS (fun w st => y_not rfl) ?_
    refine vp_take rfl rfl rfl hS (fun w st => y_pickf rfl rfl) ?_
    refine vp_part rfl rfl rfl hS rfl ?_ ?_
    ·
     intro hg41
     try simp only [dn] at hg41
     iterate 10 refine vp_skip rfl rfl rfl hS ?_
     refine vp_do rfl (e_skip rfl rfl (vp_next hS (fun hS => ?_)))
     refine vp_skip rfl rfl rfl hS ?_
     refine vp_take rfl rfl rfl hS (fun w st => y_pickt rfl rfl) ?_
     refine vp_take rfl rfl rfl hS (fun w st => y_mv rfl) ?_
     iterate 10 refine vp_skip rfl rfl rfl hS ?_
     refine vp_do rfl (e_skip rfl rfl (vp_next hS (fun hS => ?_)))
     refine vp_skip rfl rfl rfl hS ?_
     refine vp_take rfl rfl rfl hS (fun w st => y_pickt rfl rfl) ?_
     refine vp_end (vq_then (vc_keep [(0, _), (1, _), (12, _), (13, _), (68, _)] ⟨rfl, rfl, rfl, rfl, rfl, trivial⟩ ?_))
     refine vc_ift rfl ?_
     refine vc_seq (vc_region ?_)
     refine vc_y rfl rfl (y_as rfl) ?_
     refine vc_end (vq_then (vc_keep [(4, _)] ⟨rfl, trivial⟩ (vc_ret (vq_block_ret (vq_then_ret (vq_then_ret (vq_block_ret (vq_then_ret ?_))))))))
     refine vq_ret1 st (.inl rfl) results19 (.tmp rfl) ?_
     refine ⟨_, rfl, ?_⟩
     refine ⟨?_, st.chg⟩
     rw [zipA_no hx hy (by rw [plS_eq]; clear st; simp_all)]
    ·
     intro hg41
     try simp only [dn] at hg41
     iterate 2 refine vp_take rfl rfl rfl hS (fun w st => y_mv rfl) ?_
     refine vp_take rfl rfl rfl hS (fun w st => (by exact y_ia (k := j) rfl rfl underlying48 sizeOf56 rfl (by omega))) ?_
     refine vp_take rfl rfl rfl hS (fun w st => (by exact y_fa (k := 4) rfl underlying56 rfl rfl sizeOf48 rfl)) ?_
     refine vp_take rfl rfl rfl hS (fun w st => (by exact y_ldc rfl isAgg48 (st.chg.cell (hc 4 _ rfl) (by simp)))) ?_
     iterate 2 refine vp_take rfl rfl rfl hS (fun w st => y_mv rfl) ?_
     refine vp_take rfl rfl rfl hS (fun w st => (by exact y_ia (k := j) rfl rfl underlying48 sizeOf56 rfl (by omega))) ?_
     refine vp_take rfl rfl rfl hS (fun w st => (by exact y_fa (k := 4) rfl underlying56 rfl rfl sizeOf48 rfl)) ?_
     refine vp_take rfl rfl rfl hS (fun w st => (by exact y_ldc rfl isAgg48 (st.chg.cell (hd 4 _ rfl) (by simp)))) ?_
     refine vp_do rfl (e_call [_, _] rfl rfl call19 rfl (ih _ hB2 x.body rfl hkx.body y.body _ _ _ _ _ (hsb.kept (Same.of_nil st.chg)) (hsb'.kept (Same.of_nil st.chg))) ?_)
     rintro _ w ⟨rfl, cw⟩
     replace st := st.call0 cw
     refine vp_next (by exact st) ?_; intro hS
     refine vp_take rfl rfl rfl hS (fun w st => y_not rfl) ?_
     refine vp_take rfl rfl rfl hS (fun w st => y_pickf rfl rfl) ?_
     refine vp_part rfl rfl rfl hS rfl ?_ ?_
     ·
      intro hg55
      try simp only [dn] at hg55
      iterate 10 refine vp_skip rfl rfl rfl hS ?_
      refine vp_do rfl (e_skip rfl rfl (vp_next hS (fun hS => ?_)))
      refine vp_skip rfl rfl rfl hS ?_
      refine vp_take rfl rfl rfl hS (fun w st => y_pickt rfl rfl) ?_
      refine vp_end (vq_then (vc_keep [(0, _), (1, _), (12, _), (13, _), (68, _)] ⟨rfl, rfl, rfl, rfl, rfl, trivial⟩ ?_))
      refine vc_ift rfl ?_
      refine vc_seq (vc_region ?_)
      refine vc_y rfl rfl (y_as rfl) ?_
      refine vc_end (vq_then (vc_keep [(4, _)] ⟨rfl, trivial⟩ (vc_ret (vq_block_ret (vq_then_ret (vq_then_ret (vq_block_ret (vq_then_ret ?_))))))))
      refine vq_ret1 st (.inl rfl) results19 (.tmp rfl) ?_
      refine ⟨_, rfl, ?_⟩
      refine ⟨?_, st.chg⟩
      rw [zipA_no hx hy (by rw [plS_eq]; clear st; simp_all)]
     ·
      intro hg55
      try simp only [dn] at hg55
      iterate 2 refine vp_take rfl rfl rfl hS (fun w st => y_mv rfl) ?_
      refine vp_take rfl rfl rfl hS (fun w st => (by exact y_ia (k := j) rfl rfl underlying48 sizeOf56 rfl (by omega))) ?_
      refine vp_take rfl rfl rfl hS (fun w st => (by exact y_fa (k := 5) rfl underlying56 rfl rfl sizeOf48 rfl)) ?_
      refine vp_take rfl rfl rfl hS (fun w st => (by exact y_ldc rfl isAgg48 (st.chg.cell (hc 5 _ rfl) (by simp)))) ?_
      iterate 2 refine vp_take rfl rfl rfl hS (fun w st => y_mv rfl) ?_
      refine vp_take rfl rfl rfl hS (fun w st => (by exact y_ia (k := j) rfl rfl underlying48 sizeOf56 rfl (by omega))) ?_
      refine vp_take rfl rfl rfl hS (fun w st => (by exact y_fa (k := 5) rfl underlying56 rfl rfl sizeOf48 rfl)) ?_
      refine vp_take rfl rfl rfl hS (fun w st => (by exact y_ldc rfl isAgg48 (st.chg.cell (hd 5 _ rfl) (by simp)))) ?_
      refine vp_do rfl (e_call [_, _] rfl rfl call19 rfl (ih _ hL2 x.els rfl hkx.els y.els _ _ _ _ _ (hsl.kept (Same.of_nil st.chg)) (hsl'.kept (Same.of_nil st.chg))) ?_)
      rintro _ w ⟨rfl, cw⟩
      replace st := st.call0 cw
      refine vp_next (by exact st) ?_; intro hS
      refine vp_take rfl rfl rfl hS (fun w st => y_not rfl) ?_
      refine vp_take rfl rfl rfl hS (fun w st => y_pickf rfl rfl) ?_
      refine vp_end (vq_then (vc_keep [(0, _), (1, _), (12, _), (13, _), (68, _)] ⟨rfl, rfl, rfl, rfl, rfl, trivial⟩ ?_))
      refine vc_ifs rfl ?_ ?_
      ·
       intro hc68
       try simp only [dn] at hc68
       refine vc_seq (vc_region ?_)
       refine vc_y rfl rfl (y_as rfl) ?_
       refine vc_end (vq_then (vc_keep [(4, _)] ⟨rfl, trivial⟩ (vc_ret (vq_block_ret (vq_then_ret (vq_then_ret (vq_block_ret (vq_then_ret ?_))))))))
       refine vq_ret1 st (.inl rfl) results19 (.tmp rfl) ?_
       refine ⟨_, rfl, ?_⟩
       refine ⟨?_, st.chg⟩
       rw [zipA_no hx hy (by rw [plS_eq]; clear st; simp_all)]
      ·
       intro hc68
       try simp only [dn] at hc68
       refine vc_code_skip (vq_block (vq_then (vc_keep [(0, _), (1, _), (12, _), (13, _)] ⟨rfl, rfl, rfl, rfl, trivial⟩ (vc_region ?_))))
       refine vc_y rfl rfl (y_add rfl rfl (by omega : _ = ((j + 1 : Nat) : Int)) (by omega) (by omega)) ?_
       refine vc_y rfl rfl (y_mv rfl) ?_
       refine vc_end ?_
       refine vq_again (j + 1)  ⟨rfl, rfl, rfl, rfl, trivial⟩ (st.drop (by repeat (first | exact sl0 | apply sl1 | apply sl2))) ?_ ?_
       ·
        exact ⟨by omega, fun i x' y' hi h1 h2 => by
          rcases (by omega : i < j ∨ i = j) with h | rfl
          · exact hall i x' y' h h1 h2
          · rw [hx] at h1; rw [hy] at h2; cases h1; cases h2; (rw [plS_eq]; clear st; simp_all)⟩
       ·
        omega
  ·
   intro hc14
   try simp only [dn] at hc14
   refine vc_exit (vq_then_exit (vq_then_exit (vq_block_exit (vq_then (vc_keep [] trivial (vc_seq (vc_region ?_)))))))
   refine vc_y rfl rfl (y_as rfl) ?_
   refine vc_end (vq_then (vc_keep [(4, _)] ⟨rfl, trivial⟩ (vc_ret ?_)))
   refine vq_ret1 st (.inl rfl) results19 (.tmp rfl) ?_
   refine ⟨_, rfl, ?_⟩
   refine ⟨?_, st.chg⟩
   rw [zipA_yes hlen fun i x y hi h1 h2 => hall i x y (by omega) h1 h2]

end
end Go.Proofs.YtggnfanphcaamaaGreatDoor

