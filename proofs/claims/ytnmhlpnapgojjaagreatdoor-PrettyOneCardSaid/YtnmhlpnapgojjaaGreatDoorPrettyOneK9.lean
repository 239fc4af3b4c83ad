/- A part of the proof: contracts of functions and plain laws; each theorem says its own conditions. -/
import Derived.Maps.RangeRun
import Derived.Test.YtnmhlpnapgojjaaGreatDoorPrettyOneK1
import Derived.Test.YtnmhlpnapgojjaaGreatDoorPrettyOneK8
import Derived.Test.YtnmhlpnapgojjaaGreatDoorPrettyOneK2
import Derived.Test.YtnmhlpnapgojjaaGreatDoorPrettyOneK7
import Derived.Test.YtnmhlpnapgojjaaGreatDoorPrettyOneK0
set_option linter.unusedVariables false
set_option linter.unusedSimpArgs false
namespace Go.Proofs.YtnmhlpnapgojjaaGreatDoor
open Go.RowKit Sx LexS _root_.Go.Proofs.Tryz
section
variable {S : Nat → Prop}
theorem zipA_lenT {α β : Type} {f : α → β → Bool} {a : List α} {b : List β} (h : zipA f a b = true) : a.length = b.length := by
 by_cases h1 : a.length = b.length
 ·exact h1
 ·rw [zipA_len h1] at h; cases h
theorem sameP_len {p q : Pg} (h : sameP p q = true) : p.threads.length = q.threads.length := by
 unfold sameP at h
 simp only [Bool.and_eq_true] at h
 exact zipA_lenT h.2

set_option maxHeartbeats 2000000 in
theorem rsamePg_any (p q : Pg) (hok : OkP p) (os ol ot os' ol' ot' : Option Addr) (cs cl ct cs' cl' ct' : Nat) (w : World) (hSh : DcRow w S os p.shared) (hL : DcRow w S ol p.locks) (hT : ThRow w S ot p.threads) (hSh' : DcRow w S os' q.shared) (hL' : DcRow w S ol' q.locks) (hT' : ThRow w S ot' q.threads) :
    Ret Tryz.prog 14 [.agg (pgL p os ol ot cs cl ct).toArray, .agg (pgL q os' ol' ot' cs' cl' ct').toArray] w fun v w' => v = .bool (sameP p q) ∧ Chg [] w w' := by
 refine ret_of [_, _] func14 rfl ntmps14 rfl ?_
 have st := St.init w []
 obtain ⟨w0, rfl⟩ : ∃ w0, w0 = w := ⟨_, rfl⟩
 have hn1 := hok.1.1
 have hn2 := hok.2.1.1
 have hn3 := hok.2.2.1
 refine vc_seq (vc_region ?_)
 refine vc_e (e_bx (l := [_, _, _]) st rfl rfl rfl rfl ?_)
 intro b2 w hb2 st
 refine vc_e (e_bx (l := [_, _, _]) st rfl rfl rfl rfl ?_)
 intro b3 w hb3 st
 refine ya ?_
 refine vc_end (vq_then (vk2 2 3 (vc_seq (vc_seq (vc_region ?_)))))
 refine vy (y_fa0 rfl underlying26 rfl rfl sizeOf23 rfl) ?_
 refine yl st 1 isAgg23 ?_
 refine vy (y_fa0 rfl underlying26 rfl rfl sizeOf23 rfl) ?_
 refine yl st 0 isAgg23 ?_
 refine vc_e (e_call [_, _] rfl rfl call44 rfl (rdeclsS_any p.shared q.shared _ _ _ _ _ (RowC.kept hSh (Same.of_nil st.chg)) (RowC.kept hSh' (Same.of_nil st.chg)) (by omega)) ?_)
 rintro _ w ⟨rfl, cw⟩
 replace st := st.call0 cw
 refine vy (y_not rfl) ?_
 refine vmb ?_ ?_
 ·intro hg14
  try simp only [dn] at hg14
  iterate 6 refine vsk ?_
  refine ypt ?_
  refine ym ?_
  iterate 7 refine vsk ?_
  refine ypt ?_
  refine vc_end (vq_then (vk3 2 3 30 ?_))
  refine vc_ift rfl ?_
  refine vc_seq (vc_region ?_)
  refine ya ?_
  refine vc_end (vq_then (vk1 4 (vc_ret (vq_then_ret ?_))))
  refine vq_ret1 st (.inl rfl) results14 (.tmp rfl) ?_
  refine ⟨_, rfl, ?_⟩
  refine ⟨?_, st.chg⟩
  clear st
  unfold sameP
  (rw [‹zipA sameD p.shared q.shared = false›]; simp; done)
 ·intro hg14
  try simp only [dn] at hg14
  refine yfz 1 underlying26 sizeOf23 ?_
  refine yl st 1 isAgg23 ?_
  refine yfz 1 underlying26 sizeOf23 ?_
  refine yl st 0 isAgg23 ?_
  refine vc_e (e_call [_, _] rfl rfl call44 rfl (rdeclsS_any p.locks q.locks _ _ _ _ _ (RowC.kept hL (Same.of_nil st.chg)) (RowC.kept hL' (Same.of_nil st.chg)) (by omega)) ?_)
  rintro _ w ⟨rfl, cw⟩
  replace st := st.call0 cw
  refine vy (y_not rfl) ?_
  refine ypf ?_
  refine vmb ?_ ?_
  ·intro hg22
   try simp only [dn] at hg22
   iterate 7 refine vsk ?_
   refine ypt ?_
   refine vc_end (vq_then (vk3 2 3 30 ?_))
   refine vc_ift rfl ?_
   refine vc_seq (vc_region ?_)
   refine ya ?_
   refine vc_end (vq_then (vk1 4 (vc_ret (vq_then_ret ?_))))
   refine vq_ret1 st (.inl rfl) results14 (.tmp rfl) ?_
   refine ⟨_, rfl, ?_⟩
   refine ⟨?_, st.chg⟩
   clear st
   unfold sameP
   (rw [‹zipA sameD p.locks q.locks = false›]; simp; done)
  ·intro hg22
   try simp only [dn] at hg22
   refine yfz 2 underlying26 sizeOf24 ?_
   refine yl st 1 isAgg24 ?_
   refine vy (y_lensl rfl underlying24) ?_
   refine yfz 2 underlying26 sizeOf24 ?_
   refine yl st 0 isAgg24 ?_
   refine vy (y_lensl rfl underlying24) ?_
   refine vy (y_nei rfl rfl) ?_
   refine ypf ?_
   refine vc_end (vq_then (vk3 2 3 30 ?_))
   refine vc_ifs rfl ?_ ?_
   ·intro hc30
    try simp only [dn] at hc30
    refine vc_seq (vc_region ?_)
    refine ya ?_
    refine vc_end (vq_then (vk1 4 (vc_ret (vq_then_ret ?_))))
    refine vq_ret1 st (.inl rfl) results14 (.tmp rfl) ?_
    refine ⟨_, rfl, ?_⟩
    refine ⟨?_, st.chg⟩
    clear st
    unfold sameP
    (rw [zipA_len (f := sameT) (by omega)]; simp; done)
   ·intro hc30
    try simp only [dn] at hc30
    have hlen : p.threads.length = q.threads.length := by omega
    refine vc_code_skip (vq_then (vk2 2 3 (vc_seq (vc_seq (vc_region ?_)))))
    refine yfz 2 underlying26 sizeOf24 ?_
    refine yl st 1 isAgg24 ?_
    refine vy (y_lensl rfl underlying24) ?_
    refine ym ?_
    refine vc_end (vq_then (vk4 2 3 33 34 (vc_block ?_)))
    refine vc_loop (w0 := w0) (M := []) (fun (j : Nat) => [(2, .pointer (some ⟨b2, 0, none⟩)), (3, .pointer (some ⟨b3, 0, none⟩)), (33, .int .i64 (p.threads.length : Int)), (34, .int .i64 (j : Int))]) (fun _ => [.blk b2 (.cells (pgL p os ol ot cs cl ct).toArray 26 (0, 0)), .blk b3 (.cells (pgL q os' ol' ot' cs' cl' ct').toArray 26 (0, 0))]) (fun j _ => j ≤ p.threads.length ∧ ∀ (i : Nat) x y, i < j → p.threads[i]? = some x → q.threads[i]? = some y → sameT x y = true) (fun j => p.threads.length - j) 0 ⟨rfl, rfl, rfl, rfl, trivial⟩ (st.pick [1, 0] rfl (by decide)) ⟨by omega, fun i x y h => by omega⟩ ?_
    clear st
    rintro j w ⟨hj, hall⟩ st
    refine vc_seq (vc_region ?_)
    refine vy (y_lss rfl rfl) ?_
    refine vc_end (vq_then (vk5 2 3 33 34 35 (vc_seq ?_)))
    refine vc_ifs rfl ?_ ?_
    ·intro hc35
     try simp only [dn] at hc35
     have stK := st
     obtain ⟨x, hx⟩ : ∃ x, p.threads[j]? = some x := ⟨_, List.getElem?_eq_getElem (by omega)⟩
     obtain ⟨y, hy⟩ : ∃ y, q.threads[j]? = some y := ⟨_, List.getElem?_eq_getElem (by omega)⟩
     obtain ⟨gb, go, rfl, hgS, hgl, hg⟩ := ThRow.at hT (by omega)
     obtain ⟨fb, fo, rfl, hfS, hfl, hf⟩ := ThRow.at hT' (by omega)
     obtain ⟨tl, tb, cll, cbb, htl, htb, hc⟩ := hg j x hx
     obtain ⟨ul, ub, dll, dbb, hul, hub, hd⟩ := hf j y hy
     have hkx := hok.2.2.2 j x hx
     have st := stK
     clear stK
     refine vc_code_skip (vq_then (vk4 2 3 33 34 (vc_seq (vc_block (vc_seq (vc_region ?_))))))
     refine ym ?_
     refine ya ?_
     refine vc_end (vq_then (vk5 2 3 5 33 34 ?_))
     refine vc_cut (w0 := w0) (M := []) (fun (z : Nat × Nat) => [(2, .pointer (some ⟨b2, 0, none⟩)), (3, .pointer (some ⟨b3, 0, none⟩)), (6, .pointer (some ⟨z.1, 0, none⟩)), (7, .pointer (some ⟨z.2, 0, none⟩)), (33, .int .i64 (p.threads.length : Int)), (34, .int .i64 (j : Int))]) (fun z => [.blk b2 (.cells (pgL p os ol (some ⟨gb, go, none⟩) cs cl ct).toArray 26 (0, 0)), .blk b3 (.cells (pgL q os' ol' (some ⟨fb, fo, none⟩) cs' cl' ct').toArray 26 (0, 0)), .blk z.1 (.cells (thL x tl tb cll cbb).toArray 69 (0, 0)), .blk z.2 (.cells (thL y ul ub dll dbb).toArray 69 (0, 0))]) (fun _ _ => True) ?_ ?_
     ·refine vd_draw Tryz.mixed (.take 0 (.take 1 (.take 2 (.take 3 (.take 4 (.take 5 (.take 6 (.take 7 (.take 8 (.take 9 (.two 10 11 (.one 11 (.one 12 (.one 13 .done))) (.one 10 (.one 12 (.one 13 .done)))))))))))))) (fun w => St _ _ _ w) st (by kernel_rfl) (by repeat (first | exact okQ_body | refine okQ_then ?_ | refine okQ_block ?_)) rfl (by kernel_rfl) ?_
      intro w cd; replace st := st.call0 cd; clear cd
      have hS := st
      refine dfz hS 2 underlying26 sizeOf24 ?_
      refine dld hS 0 isAgg24 ?_
      refine dm hS ?_
      refine vd_take rfl rfl rfl hS (fun w st => y_ia (k := j) rfl rfl underlying24 sizeOf69 rfl (by omega)) ?_
      refine vd_take rfl rfl rfl hS (fun w st => y_ldca (thL x tl tb cll cbb) rfl isAgg69 sizeOf69 rfl (fun i v hi => st.chg.cell (hc i v hi) (by simp))) ?_
      refine dfz hS 2 underlying26 sizeOf24 ?_
      refine dld hS 1 isAgg24 ?_
      refine dm hS ?_
      refine vd_take rfl rfl rfl hS (fun w st => y_ia (k := j) rfl rfl underlying24 sizeOf69 rfl (by omega)) ?_
      refine vd_take rfl rfl rfl hS (fun w st => y_ldca (thL y ul ub dll dbb) rfl isAgg69 sizeOf69 rfl (fun i v hi => st.chg.cell (hd i v hi) (by simp))) ?_
      refine vd_two rfl rfl ?_ ?_
      ·refine (e_al (l := [_, _, _, _]) st rfl rfl zeroValue69 rfl ?_)
       intro b6 w hb6 st
       refine vd_next st.dr ?_; intro hS
       refine vd_do rfl (e_al (l := [_, _, _, _]) st rfl rfl zeroValue69 rfl ?_)
       intro b7 w hb7 st
       refine vd_next st.dr ?_; intro hS
       refine vd_do rfl (e_sts (vs := [_, _, _, _]) st 1 rfl rfl rfl rfl rfl sizeOf69 rfl rfl (by (right; assumption)) ?_)
       intro w st; dsimp only [setNth, wr] at st
       refine vd_next st.dr ?_; intro hS
       refine vd_do rfl (e_sts (vs := [_, _, _, _]) st 0 rfl rfl rfl rfl rfl sizeOf69 rfl rfl (by (right; assumption)) ?_)
       intro w st; dsimp only [setNth, wr] at st
       refine vd_next st.dr ?_; intro hS
       refine vd_end ?_
       refine vq_meet (b6, b7) ⟨rfl, rfl, rfl, rfl, rfl, rfl, trivial⟩ (st.pick [2, 3, 1, 0] rfl (by decide)) ?_
       ·trivial
      ·refine (e_al (l := [_, _, _, _]) st rfl rfl zeroValue69 rfl ?_)
       intro b7 w hb7 st
       refine vd_next st.dr ?_; intro hS
       refine vd_do rfl (e_al (l := [_, _, _, _]) st rfl rfl zeroValue69 rfl ?_)
       intro b6 w hb6 st
       refine vd_next st.dr ?_; intro hS
       refine vd_do rfl (e_sts (vs := [_, _, _, _]) st 0 rfl rfl rfl rfl rfl sizeOf69 rfl rfl (by (right; assumption)) ?_)
       intro w st; dsimp only [setNth, wr] at st
       refine vd_next st.dr ?_; intro hS
       refine vd_do rfl (e_sts (vs := [_, _, _, _]) st 1 rfl rfl rfl rfl rfl sizeOf69 rfl rfl (by (right; assumption)) ?_)
       intro w st; dsimp only [setNth, wr] at st
       refine vd_next st.dr ?_; intro hS
       refine vd_end ?_
       refine vq_meet (b6, b7) ⟨rfl, rfl, rfl, rfl, rfl, rfl, trivial⟩ (st.pick [2, 3, 0, 1] rfl (by decide)) ?_
       ·trivial
     ·clear st
      rintro ⟨b6, b7⟩ w - st
      dsimp only at *
      refine vc_seq (vc_region ?_)
      refine vy (y_fa0 rfl underlying69 rfl rfl sizeOf9 rfl) ?_
      refine yl st 2 isAgg9 ?_
      refine vy (y_fa0 rfl underlying69 rfl rfl sizeOf9 rfl) ?_
      refine yl st 3 isAgg9 ?_
      refine vy (y_nes rfl rfl) ?_
      refine vmb ?_ ?_
      ·intro hg52
       try simp only [dn] at hg52
       iterate 6 refine vsk ?_
       refine ypt ?_
       refine ym ?_
       iterate 6 refine vsk ?_
       refine ypt ?_
       refine vc_end (vq_then (vk5 2 3 33 34 67 ?_))
       refine vc_ift rfl ?_
       refine vc_seq (vc_region ?_)
       refine ya ?_
       refine vc_end (vq_then (vk1 4 (vc_ret (vq_block_ret (vq_then_ret (vq_then_ret (vq_block_ret (vq_then_ret ?_))))))))
       refine vq_ret1 st (.inl rfl) results14 (.tmp rfl) ?_
       refine ⟨_, rfl, ?_⟩
       refine ⟨?_, st.chg⟩
       clear st
       unfold sameP
       (rw [zipA_no (f := sameT) hx hy (by unfold sameT; simp_all)]; simp; done)
      ·intro hg52
       try simp only [dn] at hg52
       refine yfz 1 underlying69 sizeOf23 ?_
       refine yl st 2 isAgg23 ?_
       refine yfz 1 underlying69 sizeOf23 ?_
       refine yl st 3 isAgg23 ?_
       refine vc_e (e_call [_, _] rfl rfl call44 rfl (rdeclsS_any x.locals y.locals _ _ _ _ _ (RowC.kept htl (Same.of_nil st.chg)) (RowC.kept hul (Same.of_nil st.chg)) (by have := hkx.1.1; omega)) ?_)
       rintro _ w ⟨rfl, cw⟩
       replace st := st.call0 cw
       refine vy (y_not rfl) ?_
       refine ypf ?_
       refine vmb ?_ ?_
       ·intro hg60
        try simp only [dn] at hg60
        iterate 6 refine vsk ?_
        refine ypt ?_
        refine vc_end (vq_then (vk5 2 3 33 34 67 ?_))
        refine vc_ift rfl ?_
        refine vc_seq (vc_region ?_)
        refine ya ?_
        refine vc_end (vq_then (vk1 4 (vc_ret (vq_block_ret (vq_then_ret (vq_then_ret (vq_block_ret (vq_then_ret ?_))))))))
        refine vq_ret1 st (.inl rfl) results14 (.tmp rfl) ?_
        refine ⟨_, rfl, ?_⟩
        refine ⟨?_, st.chg⟩
        clear st
        unfold sameP
        (rw [zipA_no (f := sameT) hx hy (by unfold sameT; simp_all)]; simp; done)
       ·intro hg60
        try simp only [dn] at hg60
        refine yfz 2 underlying69 sizeOf65 ?_
        refine yl st 2 isAgg65 ?_
        refine yfz 2 underlying69 sizeOf65 ?_
        refine yl st 3 isAgg65 ?_
        refine vc_e (e_call [_, _] rfl rfl call45 rfl (rstmtsS_any _ x.body rfl hkx.2.1 y.body _ _ _ _ _ (htb.kept (Same.of_nil st.chg)) (hub.kept (Same.of_nil st.chg))) ?_)
        rintro _ w ⟨rfl, cw⟩
        replace st := st.call0 cw
        refine vy (y_not rfl) ?_
        refine ypf ?_
        refine vc_end (vq_then (vk5 2 3 33 34 67 ?_))
        refine vc_ifs rfl ?_ ?_
        ·intro hc67
         try simp only [dn] at hc67
         refine vc_seq (vc_region ?_)
         refine ya ?_
         refine vc_end (vq_then (vk1 4 (vc_ret (vq_block_ret (vq_then_ret (vq_then_ret (vq_block_ret (vq_then_ret ?_))))))))
         refine vq_ret1 st (.inl rfl) results14 (.tmp rfl) ?_
         refine ⟨_, rfl, ?_⟩
         refine ⟨?_, st.chg⟩
         clear st
         unfold sameP
         (rw [zipA_no (f := sameT) hx hy (by unfold sameT; simp_all)]; simp; done)
        ·intro hc67
         try simp only [dn] at hc67
         refine vc_code_skip (vq_block (vq_then (vk4 2 3 33 34 (vc_region ?_))))
         refine vy (y_add rfl rfl (by omega : _ = ((j + 1 : Nat) : Int)) (by omega) (by omega)) ?_
         refine ym ?_
         refine vc_end ?_
         refine vq_again (j + 1)  ⟨rfl, rfl, rfl, rfl, trivial⟩ (st.pick [0, 1] rfl (by decide)) ?_ ?_
         ·exact ⟨by omega, fun i x' y' hi h1 h2 => by
            rcases (by omega : i < j ∨ i = j) with h | rfl
            · exact hall i x' y' h h1 h2
            · rw [hx] at h1; rw [hy] at h2; cases h1; cases h2; (unfold sameT; clear st; simp_all)⟩
         ·omega
    ·intro hc35
     try simp only [dn] at hc35
     refine vc_exit (vq_then_exit (vq_then_exit (vq_block_exit (vq_then (vc_keep [] trivial (vc_seq (vc_region ?_)))))))
     refine ya ?_
     refine vc_end (vq_then (vk1 4 (vc_ret ?_)))
     refine vq_ret1 st (.inl rfl) results14 (.tmp rfl) ?_
     refine ⟨_, rfl, ?_⟩
     refine ⟨?_, st.chg⟩
     clear st
     unfold sameP
     (rw [‹zipA sameD p.shared q.shared = true›, ‹zipA sameD p.locks q.locks = true›, zipA_yes (by omega) fun i x y hi h1 h2 => hall i x y (by omega) h1 h2]; rfl)

set_option maxHeartbeats 2000000 in
theorem rexactly_any (p q : Pg) (hok : OkP p) (os ol ot os' ol' ot' : Option Addr) (cs cl ct cs' cl' ct' : Nat) (w : World) (hSh : DcRow w S os p.shared) (hL : DcRow w S ol p.locks) (hT : ThRow w S ot p.threads) (hSh' : DcRow w S os' q.shared) (hL' : DcRow w S ol' q.locks) (hT' : ThRow w S ot' q.threads) :
    Ret Tryz.prog 13 [.agg (pgL p os ol ot cs cl ct).toArray, .agg (pgL q os' ol' ot' cs' cl' ct').toArray] w fun v w' => v = .bool (exactP p q) ∧ Chg [] w w' := by
 refine ret_of [_, _] func13 rfl ntmps13 rfl ?_
 have st := St.init w []
 obtain ⟨w0, rfl⟩ : ∃ w0, w0 = w := ⟨_, rfl⟩
 have hn1 := hok.1.1
 have hn2 := hok.2.1.1
 have hn3 := hok.2.2.1
 refine vc_seq (vc_region ?_)
 refine vc_e (e_bx (l := [_, _, _]) st rfl rfl rfl rfl ?_)
 intro b2 w hb2 st
 refine vc_e (e_bx (l := [_, _, _]) st rfl rfl rfl rfl ?_)
 intro b3 w hb3 st
 refine ya ?_
 refine vc_end (vq_then (vk2 2 3 (vc_seq (vc_seq (vc_region ?_)))))
 refine yla st 1 [_, _, _] isAgg26 sizeOf26 ?_
 refine yla st 0 [_, _, _] isAgg26 sizeOf26 ?_
 refine vc_e (e_call [_, _] rfl rfl call14 rfl (rsamePg_any p q hok _ _ _ _ _ _ _ _ _ _ _ _ _ (RowC.kept hSh (Same.of_nil st.chg)) (RowC.kept hL (Same.of_nil st.chg)) (hT.kept (Same.of_nil st.chg)) (RowC.kept hSh' (Same.of_nil st.chg)) (RowC.kept hL' (Same.of_nil st.chg)) (hT'.kept (Same.of_nil st.chg))) ?_)
 rintro _ w ⟨rfl, cw⟩
 replace st := st.call0 cw
 refine vy (y_not rfl) ?_
 refine vmb ?_ ?_
 ·intro hg12
  try simp only [dn] at hg12
  iterate 6 refine vsk ?_
  refine ypt ?_
  refine ym ?_
  iterate 6 refine vsk ?_
  refine ypt ?_
  refine vc_end (vq_then (vk3 2 3 27 ?_))
  refine vc_ift rfl ?_
  refine vc_seq (vc_region ?_)
  refine ya ?_
  refine vc_end (vq_then (vk1 4 (vc_ret (vq_then_ret ?_))))
  refine vq_ret1 st (.inl rfl) results13 (.tmp rfl) ?_
  refine ⟨_, rfl, ?_⟩
  refine ⟨?_, st.chg⟩
  clear st
  unfold exactP
  (rw [‹sameP p q = false›]; simp; done)
 ·intro hg12
  try simp only [dn] at hg12
  refine vy (y_fa0 rfl underlying26 rfl rfl sizeOf23 rfl) ?_
  refine yl st 1 isAgg23 ?_
  refine vy (y_fa0 rfl underlying26 rfl rfl sizeOf23 rfl) ?_
  refine yl st 0 isAgg23 ?_
  refine vc_e (e_call [_, _] rfl rfl call42 rfl (rdeclared_any p.shared q.shared _ _ _ _ _ (RowC.kept hSh (Same.of_nil st.chg)) (RowC.kept hSh' (Same.of_nil st.chg)) (by omega)) ?_)
  rintro _ w ⟨rfl, cw⟩
  replace st := st.call0 cw
  refine vy (y_not rfl) ?_
  refine ypf ?_
  refine vmb ?_ ?_
  ·intro hg20
   try simp only [dn] at hg20
   iterate 6 refine vsk ?_
   refine ypt ?_
   refine vc_end (vq_then (vk3 2 3 27 ?_))
   refine vc_ift rfl ?_
   refine vc_seq (vc_region ?_)
   refine ya ?_
   refine vc_end (vq_then (vk1 4 (vc_ret (vq_then_ret ?_))))
   refine vq_ret1 st (.inl rfl) results13 (.tmp rfl) ?_
   refine ⟨_, rfl, ?_⟩
   refine ⟨?_, st.chg⟩
   clear st
   unfold exactP
   (rw [‹zipA eqD p.shared q.shared = false›]; simp; done)
  ·intro hg20
   try simp only [dn] at hg20
   refine yfz 1 underlying26 sizeOf23 ?_
   refine yl st 1 isAgg23 ?_
   refine yfz 1 underlying26 sizeOf23 ?_
   refine yl st 0 isAgg23 ?_
   refine vc_e (e_call [_, _] rfl rfl call42 rfl (rdeclared_any p.locks q.locks _ _ _ _ _ (RowC.kept hL (Same.of_nil st.chg)) (RowC.kept hL' (Same.of_nil st.chg)) (by omega)) ?_)
   rintro _ w ⟨rfl, cw⟩
   replace st := st.call0 cw
   refine vy (y_not rfl) ?_
   refine ypf ?_
   refine vc_end (vq_then (vk3 2 3 27 ?_))
   refine vc_ifs rfl ?_ ?_
   ·intro hc27
    try simp only [dn] at hc27
    refine vc_seq (vc_region ?_)
    refine ya ?_
    refine vc_end (vq_then (vk1 4 (vc_ret (vq_then_ret ?_))))
    refine vq_ret1 st (.inl rfl) results13 (.tmp rfl) ?_
    refine ⟨_, rfl, ?_⟩
    refine ⟨?_, st.chg⟩
    clear st
    unfold exactP
    (rw [‹zipA eqD p.locks q.locks = false›]; simp; done)
   ·intro hc27
    try simp only [dn] at hc27
    have hsp : sameP p q = true := by assumption
    have hlen := sameP_len hsp
    refine vc_code_skip (vq_then (vk2 2 3 (vc_seq (vc_seq (vc_region ?_)))))
    refine yfz 2 underlying26 sizeOf24 ?_
    refine yl st 1 isAgg24 ?_
    refine vy (y_lensl rfl underlying24) ?_
    refine ym ?_
    refine vc_end (vq_then (vk4 2 3 30 31 (vc_block ?_)))
    refine vc_loop (w0 := w0) (M := []) (fun (j : Nat) => [(2, .pointer (some ⟨b2, 0, none⟩)), (3, .pointer (some ⟨b3, 0, none⟩)), (30, .int .i64 (p.threads.length : Int)), (31, .int .i64 (j : Int))]) (fun _ => [.blk b2 (.cells (pgL p os ol ot cs cl ct).toArray 26 (0, 0)), .blk b3 (.cells (pgL q os' ol' ot' cs' cl' ct').toArray 26 (0, 0))]) (fun j _ => j ≤ p.threads.length ∧ ∀ (i : Nat) x y, i < j → p.threads[i]? = some x → q.threads[i]? = some y → exT x y = true) (fun j => p.threads.length - j) 0 ⟨rfl, rfl, rfl, rfl, trivial⟩ (st.pick [1, 0] rfl (by decide)) ⟨by omega, fun i x y h => by omega⟩ ?_
    clear st
    rintro j w ⟨hj, hall⟩ st
    refine vc_seq (vc_region ?_)
    refine vy (y_lss rfl rfl) ?_
    refine vc_end (vq_then (vk5 2 3 30 31 32 (vc_seq ?_)))
    refine vc_ifs rfl ?_ ?_
    ·intro hc32
     try simp only [dn] at hc32
     have stK := st
     obtain ⟨x, hx⟩ : ∃ x, p.threads[j]? = some x := ⟨_, List.getElem?_eq_getElem (by omega)⟩
     obtain ⟨y, hy⟩ : ∃ y, q.threads[j]? = some y := ⟨_, List.getElem?_eq_getElem (by omega)⟩
     obtain ⟨gb, go, rfl, hgS, hgl, hg⟩ := ThRow.at hT (by omega)
     obtain ⟨fb, fo, rfl, hfS, hfl, hf⟩ := ThRow.at hT' (by omega)
     obtain ⟨tl, tb, cll, cbb, htl, htb, hc⟩ := hg j x hx
     obtain ⟨ul, ub, dll, dbb, hul, hub, hd⟩ := hf j y hy
     have hkx := hok.2.2.2 j x hx
     have st := stK
     clear stK
     refine vc_code_skip (vq_then (vk4 2 3 30 31 (vc_seq (vc_block (vc_seq (vc_region ?_))))))
     refine ym ?_
     refine ya ?_
     refine vc_end (vq_then (vk5 2 3 5 30 31 ?_))
     refine vc_cut (w0 := w0) (M := []) (fun (z : Nat × Nat) => [(2, .pointer (some ⟨b2, 0, none⟩)), (3, .pointer (some ⟨b3, 0, none⟩)), (6, .pointer (some ⟨z.1, 0, none⟩)), (7, .pointer (some ⟨z.2, 0, none⟩)), (30, .int .i64 (p.threads.length : Int)), (31, .int .i64 (j : Int))]) (fun z => [.blk b2 (.cells (pgL p os ol (some ⟨gb, go, none⟩) cs cl ct).toArray 26 (0, 0)), .blk b3 (.cells (pgL q os' ol' (some ⟨fb, fo, none⟩) cs' cl' ct').toArray 26 (0, 0)), .blk z.1 (.cells (thL x tl tb cll cbb).toArray 69 (0, 0)), .blk z.2 (.cells (thL y ul ub dll dbb).toArray 69 (0, 0))]) (fun _ _ => True) ?_ ?_
     ·refine vd_draw Tryz.mixed (.take 0 (.take 1 (.take 2 (.take 3 (.take 4 (.take 5 (.take 6 (.take 7 (.take 8 (.take 9 (.two 10 11 (.one 11 (.one 12 (.one 13 .done))) (.one 10 (.one 12 (.one 13 .done)))))))))))))) (fun w => St _ _ _ w) st (by kernel_rfl) (by repeat (first | exact okQ_body | refine okQ_then ?_ | refine okQ_block ?_)) rfl (by kernel_rfl) ?_
      intro w cd; replace st := st.call0 cd; clear cd
      have hS := st
      refine dfz hS 2 underlying26 sizeOf24 ?_
      refine dld hS 0 isAgg24 ?_
      refine dm hS ?_
      refine vd_take rfl rfl rfl hS (fun w st => y_ia (k := j) rfl rfl underlying24 sizeOf69 rfl (by omega)) ?_
      refine vd_take rfl rfl rfl hS (fun w st => y_ldca (thL x tl tb cll cbb) rfl isAgg69 sizeOf69 rfl (fun i v hi => st.chg.cell (hc i v hi) (by simp))) ?_
      refine dfz hS 2 underlying26 sizeOf24 ?_
      refine dld hS 1 isAgg24 ?_
      refine dm hS ?_
      refine vd_take rfl rfl rfl hS (fun w st => y_ia (k := j) rfl rfl underlying24 sizeOf69 rfl (by omega)) ?_
      refine vd_take rfl rfl rfl hS (fun w st => y_ldca (thL y ul ub dll dbb) rfl isAgg69 sizeOf69 rfl (fun i v hi => st.chg.cell (hd i v hi) (by simp))) ?_
      refine vd_two rfl rfl ?_ ?_
      ·refine (e_al (l := [_, _, _, _]) st rfl rfl zeroValue69 rfl ?_)
       intro b6 w hb6 st
       refine vd_next st.dr ?_; intro hS
       refine vd_do rfl (e_al (l := [_, _, _, _]) st rfl rfl zeroValue69 rfl ?_)
       intro b7 w hb7 st
       refine vd_next st.dr ?_; intro hS
       refine vd_do rfl (e_sts (vs := [_, _, _, _]) st 1 rfl rfl rfl rfl rfl sizeOf69 rfl rfl (by (right; assumption)) ?_)
       intro w st; dsimp only [setNth, wr] at st
       refine vd_next st.dr ?_; intro hS
       refine vd_do rfl (e_sts (vs := [_, _, _, _]) st 0 rfl rfl rfl rfl rfl sizeOf69 rfl rfl (by (right; assumption)) ?_)
       intro w st; dsimp only [setNth, wr] at st
       refine vd_next st.dr ?_; intro hS
       refine vd_end ?_
       refine vq_meet (b6, b7) ⟨rfl, rfl, rfl, rfl, rfl, rfl, trivial⟩ (st.pick [2, 3, 1, 0] rfl (by decide)) ?_
       ·trivial
      ·refine (e_al (l := [_, _, _, _]) st rfl rfl zeroValue69 rfl ?_)
       intro b7 w hb7 st
       refine vd_next st.dr ?_; intro hS
       refine vd_do rfl (e_al (l := [_, _, _, _]) st rfl rfl zeroValue69 rfl ?_)
       intro b6 w hb6 st
       refine vd_next st.dr ?_; intro hS
       refine vd_do rfl (e_sts (vs := [_, _, _, _]) st 0 rfl rfl rfl rfl rfl sizeOf69 rfl rfl (by (right; assumption)) ?_)
       intro w st; dsimp only [setNth, wr] at st
       refine vd_next st.dr ?_; intro hS
       refine vd_do rfl (e_sts (vs := [_, _, _, _]) st 1 rfl rfl rfl rfl rfl sizeOf69 rfl rfl (by (right; assumption)) ?_)
       intro w st; dsimp only [setNth, wr] at st
       refine vd_next st.dr ?_; intro hS
       refine vd_end ?_
       refine vq_meet (b6, b7) ⟨rfl, rfl, rfl, rfl, rfl, rfl, trivial⟩ (st.pick [2, 3, 0, 1] rfl (by decide)) ?_
       ·trivial
     ·clear st
      rintro ⟨b6, b7⟩ w - st
      dsimp only at *
      refine vc_seq (vc_region ?_)
      refine yfz 3 underlying69 sizeOf3 ?_
      refine yl st 2 isAgg3 ?_
      refine yfz 3 underlying69 sizeOf3 ?_
      refine yl st 3 isAgg3 ?_
      refine vy (y_nei rfl rfl) ?_
      refine vmb ?_ ?_
      ·intro hg49
       try simp only [dn] at hg49
       iterate 6 refine vsk ?_
       refine ypt ?_
       refine ym ?_
       iterate 6 refine vsk ?_
       refine ypt ?_
       refine vc_end (vq_then (vk5 2 3 30 31 64 ?_))
       refine vc_ift rfl ?_
       refine vc_seq (vc_region ?_)
       refine ya ?_
       refine vc_end (vq_then (vk1 4 (vc_ret (vq_block_ret (vq_then_ret (vq_then_ret (vq_block_ret (vq_then_ret ?_))))))))
       refine vq_ret1 st (.inl rfl) results13 (.tmp rfl) ?_
       refine ⟨_, rfl, ?_⟩
       refine ⟨?_, st.chg⟩
       clear st
       unfold exactP
       (rw [zipA_no (f := exT) hx hy (by unfold exT; simp_all)]; simp; done)
      ·intro hg49
       try simp only [dn] at hg49
       refine yfz 1 underlying69 sizeOf23 ?_
       refine yl st 2 isAgg23 ?_
       refine yfz 1 underlying69 sizeOf23 ?_
       refine yl st 3 isAgg23 ?_
       refine vc_e (e_call [_, _] rfl rfl call42 rfl (rdeclared_any x.locals y.locals _ _ _ _ _ (RowC.kept htl (Same.of_nil st.chg)) (RowC.kept hul (Same.of_nil st.chg)) (by have := hkx.1.1; omega)) ?_)
       rintro _ w ⟨rfl, cw⟩
       replace st := st.call0 cw
       refine vy (y_not rfl) ?_
       refine ypf ?_
       refine vmb ?_ ?_
       ·intro hg57
        try simp only [dn] at hg57
        iterate 6 refine vsk ?_
        refine ypt ?_
        refine vc_end (vq_then (vk5 2 3 30 31 64 ?_))
        refine vc_ift rfl ?_
        refine vc_seq (vc_region ?_)
        refine ya ?_
        refine vc_end (vq_then (vk1 4 (vc_ret (vq_block_ret (vq_then_ret (vq_then_ret (vq_block_ret (vq_then_ret ?_))))))))
        refine vq_ret1 st (.inl rfl) results13 (.tmp rfl) ?_
        refine ⟨_, rfl, ?_⟩
        refine ⟨?_, st.chg⟩
        clear st
        unfold exactP
        (rw [zipA_no (f := exT) hx hy (by unfold exT; simp_all)]; simp; done)
       ·intro hg57
        try simp only [dn] at hg57
        refine yfz 2 underlying69 sizeOf65 ?_
        refine yl st 2 isAgg65 ?_
        refine yfz 2 underlying69 sizeOf65 ?_
        refine yl st 3 isAgg65 ?_
        refine vc_e (e_call [_, _] rfl rfl call43 rfl (rplacesS_any _ x.body rfl hkx.2.1 y.body _ _ _ _ _ (htb.kept (Same.of_nil st.chg)) (hub.kept (Same.of_nil st.chg))) ?_)
        rintro _ w ⟨rfl, cw⟩
        replace st := st.call0 cw
        refine vy (y_not rfl) ?_
        refine ypf ?_
        refine vc_end (vq_then (vk5 2 3 30 31 64 ?_))
        refine vc_ifs rfl ?_ ?_
        ·intro hc64
         try simp only [dn] at hc64
         refine vc_seq (vc_region ?_)
         refine ya ?_
         refine vc_end (vq_then (vk1 4 (vc_ret (vq_block_ret (vq_then_ret (vq_then_ret (vq_block_ret (vq_then_ret ?_))))))))
         refine vq_ret1 st (.inl rfl) results13 (.tmp rfl) ?_
         refine ⟨_, rfl, ?_⟩
         refine ⟨?_, st.chg⟩
         clear st
         unfold exactP
         (rw [zipA_no (f := exT) hx hy (by unfold exT; simp_all)]; simp; done)
        ·intro hc64
         try simp only [dn] at hc64
         refine vc_code_skip (vq_block (vq_then (vk4 2 3 30 31 (vc_region ?_))))
         refine vy (y_add rfl rfl (by omega : _ = ((j + 1 : Nat) : Int)) (by omega) (by omega)) ?_
         refine ym ?_
         refine vc_end ?_
         refine vq_again (j + 1)  ⟨rfl, rfl, rfl, rfl, trivial⟩ (st.pick [0, 1] rfl (by decide)) ?_ ?_
         ·exact ⟨by omega, fun i x' y' hi h1 h2 => by
            rcases (by omega : i < j ∨ i = j) with h | rfl
            · exact hall i x' y' h h1 h2
            · rw [hx] at h1; rw [hy] at h2; cases h1; cases h2; (unfold exT; clear st; simp_all)⟩
         ·omega
    ·intro hc32
     try simp only [dn] at hc32
     refine vc_exit (vq_then_exit (vq_then_exit (vq_block_exit (vq_then (vc_keep [] trivial (vc_seq (vc_region ?_)))))))
     refine ya ?_
     refine vc_end (vq_then (vk1 4 (vc_ret ?_)))
     refine vq_ret1 st (.inl rfl) results13 (.tmp rfl) ?_
     refine ⟨_, rfl, ?_⟩
     refine ⟨?_, st.chg⟩
     clear st
     unfold exactP
     (rw [‹sameP p q = true›, ‹zipA eqD p.shared q.shared = true›, ‹zipA eqD p.locks q.locks = true›, zipA_yes hlen fun i x y hi h1 h2 => hall i x y (by omega) h1 h2]; rfl)

end
end Go.Proofs.YtnmhlpnapgojjaaGreatDoor


/- The engine, eighteenth part: trees whose rows lie each in a block of its own. -/
namespace Sx
open Go Go.RowKit

def obk : Option Addr → List Nat | some a => [a.block] | none => []
theorem obk_own {oa : Option Addr} {n cap : Nat} : (Value.slice oa n cap).ownBlock.toList = obk oa := by cases oa <;> rfl
theorem owns_kept {w w' : World} {base E size n : Nat} {oa : Option Addr} {m cap : Nat} {xs : List Value} (h : w.ownsRow base E size (.slice oa m cap) n xs) (hk : ∀ b ∈ obk oa, w'.heap[b]? = w.heap[b]?) : w'.ownsRow base E size (.slice oa m cap) n xs := by
  refine ⟨h.1, h.2.imp id fun ⟨g, c, cur, e, hb, hc, hr⟩ => ⟨g, c, cur, e, hb, ?_, hr⟩⟩
  simp only [Value.slice.injEq] at e
  rw [hk g (by rw [e.1]; simp [obk])]; exact hc
theorem owns_lt {w : World} {base E size n : Nat} {oa : Option Addr} {m cap : Nat} {xs : List Value} (h : w.ownsRow base E size (.slice oa m cap) n xs) : ∀ b ∈ obk oa, base ≤ b ∧ b < w.heap.size := by
  intro b hb
  rw [← obk_own (n := m) (cap := cap)] at hb
  exact World.ownsRow.lt h b (by simpa using hb)
theorem owns_mono {w : World} {base base' E size n : Nat} {v : Value} {xs : List Value} (h : w.ownsRow base E size v n xs) (hb : ∀ b, v.ownBlock = some b → base' ≤ b) : w.ownsRow base' E size v n xs :=
  ⟨h.1, h.2.imp id fun ⟨g, c, cur, e, hg, hr⟩ => ⟨g, c, cur, e, hb g (by rw [e]; rfl), hr⟩⟩

section
variable (tE tS tD tT : Nat)
mutual
/-- an expression's cells, and the blocks that its kids lie in -/
def ExS (w : World) : Ex → List Value → List Nat → Prop
  | .mk k op wd nm kids a, l, S => ∃ oa cap xs S', l = [.int .u8 k, .int .u8 op, .int .i64 wd, str nm, .slice oa kids.length cap, .int .i64 a] ∧ w.ownsRow 0 tE 6 (.slice oa kids.length cap) kids.length xs ∧ S = obk oa ++ S' ∧ ExSs w kids xs S'
termination_by structural e => e
def ExSs (w : World) : List Ex → List Value → List Nat → Prop
  | [], xs, S => xs = [] ∧ S = []
  | e :: r, xs, S => ∃ v S1 xr Sr, xs = v ++ xr ∧ S = S1 ++ Sr ∧ ExS w e v S1 ∧ ExSs w r xr Sr
termination_by structural l => l
end
def ExR (w : World) (oa : Option Addr) (cap : Nat) (es : List Ex) (S : List Nat) : Prop := ∃ xs S', w.ownsRow 0 tE 6 (.slice oa es.length cap) es.length xs ∧ S = obk oa ++ S' ∧ ExSs tE w es xs S'
mutual
def SmS (w : World) : Sm → List Value → List Nat → Prop
  | .mk k nm other e body els a, l, S => ∃ oe ce ob cb ol cl Se xb Sb xl Sl, l = [.int .u8 k, str nm, str other, .slice oe e.length ce, .slice ob body.length cb, .slice ol els.length cl, .int .i64 a] ∧ ExR tE w oe ce e Se ∧
      w.ownsRow 0 tS 7 (.slice ob body.length cb) body.length xb ∧ SmSs w body xb Sb ∧ w.ownsRow 0 tS 7 (.slice ol els.length cl) els.length xl ∧ SmSs w els xl Sl ∧ S = Se ++ ((obk ob ++ Sb) ++ (obk ol ++ Sl))
termination_by structural s => s
def SmSs (w : World) : List Sm → List Value → List Nat → Prop
  | [], xs, S => xs = [] ∧ S = []
  | s :: r, xs, S => ∃ v S1 xr Sr, xs = v ++ xr ∧ S = S1 ++ Sr ∧ SmS w s v S1 ∧ SmSs w r xr Sr
termination_by structural l => l
end
def SmR (w : World) (oa : Option Addr) (cap : Nat) (ss : List Sm) (S : List Nat) : Prop := ∃ xs S', w.ownsRow 0 tS 7 (.slice oa ss.length cap) ss.length xs ∧ S = obk oa ++ S' ∧ SmSs tE tS w ss xs S'
def DcR (w : World) (oa : Option Addr) (cap : Nat) (ds : List Dc) (S : List Nat) : Prop := w.ownsRow 0 tD 3 (.slice oa ds.length cap) ds.length (ds.flatMap dcL) ∧ S = obk oa
def ThS (w : World) (t : Th) (l : List Value) (S : List Nat) : Prop := ∃ ol cl ob cb Sl Sb, l = [str t.nm, .slice ol t.locals.length cl, .slice ob t.body.length cb, .int .i64 t.a] ∧ DcR tD w ol cl t.locals Sl ∧ SmR tE tS w ob cb t.body Sb ∧ S = Sl ++ Sb
def ThSs (w : World) : List Th → List Value → List Nat → Prop
  | [], xs, S => xs = [] ∧ S = []
  | t :: r, xs, S => ∃ v S1 xr Sr, xs = v ++ xr ∧ S = S1 ++ Sr ∧ ThS tE tS tD w t v S1 ∧ ThSs w r xr Sr
def ThR (w : World) (oa : Option Addr) (cap : Nat) (ts : List Th) (S : List Nat) : Prop := ∃ xs S', w.ownsRow 0 tT 4 (.slice oa ts.length cap) ts.length xs ∧ S = obk oa ++ S' ∧ ThSs tE tS tD w ts xs S'
def PgS (w : World) (p : Pg) (l : List Value) (S : List Nat) : Prop := ∃ os cs ol cl ot ct Ss Sl St, l = [.slice os p.shared.length cs, .slice ol p.locks.length cl, .slice ot p.threads.length ct] ∧ DcR tD w os cs p.shared Ss ∧ DcR tD w ol cl p.locks Sl ∧ ThR tE tS tD tT w ot ct p.threads St ∧ S = Ss ++ (Sl ++ St)
end

section
variable {tE tS tD tT : Nat} {w w' : World}
theorem ExS_iff {e : Ex} {l : List Value} {S : List Nat} : ExS tE w e l S ↔ ∃ oa cap, l = [.int .u8 e.k, .int .u8 e.op, .int .i64 e.wd, str e.nm, .slice oa e.kids.length cap, .int .i64 e.a] ∧ ExR tE w oa cap e.kids S := by
  cases e with
  | mk k op wd nm kids a =>
    rw [ExS]
    constructor
    · rintro ⟨oa, cap, xs, S', h1, h2, h3, h4⟩
      exact ⟨oa, cap, h1, xs, S', h2, h3, h4⟩
    · rintro ⟨oa, cap, h1, xs, S', h2, h3, h4⟩
      exact ⟨oa, cap, xs, S', h1, h2, h3, h4⟩
theorem SmS_iff {s : Sm} {l : List Value} {S : List Nat} : SmS tE tS w s l S ↔ ∃ oe ce ob cb ol cl Se Sb Sl, l = [.int .u8 s.k, str s.nm, str s.other, .slice oe s.e.length ce, .slice ob s.body.length cb, .slice ol s.els.length cl, .int .i64 s.a] ∧
    ExR tE w oe ce s.e Se ∧ SmR tE tS w ob cb s.body Sb ∧ SmR tE tS w ol cl s.els Sl ∧ S = Se ++ (Sb ++ Sl) := by
  cases s with
  | mk k nm other e body els a =>
    rw [SmS]
    constructor
    · rintro ⟨oe, ce, ob, cb, ol, cl, Se, xb, Sb, xl, Sl, h1, h2, h3, h4, h5, h6, h7⟩
      exact ⟨oe, ce, ob, cb, ol, cl, Se, _, _, h1, h2, ⟨xb, Sb, h3, rfl, h4⟩, ⟨xl, Sl, h5, rfl, h6⟩, h7⟩
    · rintro ⟨oe, ce, ob, cb, ol, cl, Se, _, _, h1, h2, ⟨xb, Sb, h3, rfl, h4⟩, ⟨xl, Sl, h5, rfl, h6⟩, h7⟩
      exact ⟨oe, ce, ob, cb, ol, cl, Se, xb, Sb, xl, Sl, h1, h2, h3, h4, h5, h6, h7⟩
theorem ExS.len {e : Ex} {l : List Value} {S : List Nat} (h : ExS tE w e l S) : l.length = 6 := by obtain ⟨oa, cap, rfl, _⟩ := ExS_iff.1 h; rfl
theorem SmS.len {s : Sm} {l : List Value} {S : List Nat} (h : SmS tE tS w s l S) : l.length = 7 := by obtain ⟨oe, ce, ob, cb, ol, cl, Se, Sb, Sl, rfl, _⟩ := SmS_iff.1 h; rfl
theorem ThS.len {t : Th} {l : List Value} {S : List Nat} (h : ThS tE tS tD w t l S) : l.length = 4 := by obtain ⟨ol, cl, ob, cb, Sl, Sb, rfl, _⟩ := h; rfl
/-! ### what is apart stays -/
mutual
theorem ExS.kept : ∀ {e : Ex} {l : List Value} {S : List Nat}, ExS tE w e l S → (∀ b ∈ S, w'.heap[b]? = w.heap[b]?) → ExS tE w' e l S
  | .mk k op wd nm kids a, l, S, h, hk => by
    rw [ExS] at h ⊢
    obtain ⟨oa, cap, xs, S', h1, h2, rfl, h4⟩ := h
    exact ⟨oa, cap, xs, S', h1, owns_kept h2 (fun b hb => hk b (List.mem_append.2 (.inl hb))), rfl, ExSs.kept h4 (fun b hb => hk b (List.mem_append.2 (.inr hb)))⟩
termination_by structural e => e
theorem ExSs.kept : ∀ {es : List Ex} {xs : List Value} {S : List Nat}, ExSs tE w es xs S → (∀ b ∈ S, w'.heap[b]? = w.heap[b]?) → ExSs tE w' es xs S
  | [], xs, S, h, hk => by rw [ExSs] at h ⊢; exact h
  | e :: r, xs, S, h, hk => by
    rw [ExSs] at h ⊢
    obtain ⟨v, S1, xr, Sr, rfl, rfl, h1, h2⟩ := h
    exact ⟨v, S1, xr, Sr, rfl, rfl, ExS.kept h1 (fun b hb => hk b (List.mem_append.2 (.inl hb))), ExSs.kept h2 (fun b hb => hk b (List.mem_append.2 (.inr hb)))⟩
termination_by structural es => es
end
theorem ExR.kept {oa : Option Addr} {cap : Nat} {es : List Ex} {S : List Nat} (h : ExR tE w oa cap es S) (hk : ∀ b ∈ S, w'.heap[b]? = w.heap[b]?) : ExR tE w' oa cap es S := by
  obtain ⟨xs, S', h1, rfl, h3⟩ := h
  exact ⟨xs, S', owns_kept h1 (fun b hb => hk b (List.mem_append.2 (.inl hb))), rfl, ExSs.kept h3 (fun b hb => hk b (List.mem_append.2 (.inr hb)))⟩
mutual
theorem SmS.kept : ∀ {e : Sm} {l : List Value} {S : List Nat}, SmS tE tS w e l S → (∀ b ∈ S, w'.heap[b]? = w.heap[b]?) → SmS tE tS w' e l S
  | .mk k nm other e body els a, l, S, h, hk => by
    rw [SmS] at h ⊢
    obtain ⟨oe, ce, ob, cb, ol, cl, Se, xb, Sb, xl, Sl, h1, h2, h3, h4, h5, h6, rfl⟩ := h
    exact ⟨oe, ce, ob, cb, ol, cl, Se, xb, Sb, xl, Sl, h1, h2.kept (fun b hb => hk b (by simp [hb])), owns_kept h3 (fun b hb => hk b (by simp [hb])), SmSs.kept h4 (fun b hb => hk b (by simp [hb])),
      owns_kept h5 (fun b hb => hk b (by simp [hb])), SmSs.kept h6 (fun b hb => hk b (by simp [hb])), rfl⟩
termination_by structural e => e
theorem SmSs.kept : ∀ {es : List Sm} {xs : List Value} {S : List Nat}, SmSs tE tS w es xs S → (∀ b ∈ S, w'.heap[b]? = w.heap[b]?) → SmSs tE tS w' es xs S
  | [], xs, S, h, hk => by rw [SmSs] at h ⊢; exact h
  | e :: r, xs, S, h, hk => by
    rw [SmSs] at h ⊢
    obtain ⟨v, S1, xr, Sr, rfl, rfl, h1, h2⟩ := h
    exact ⟨v, S1, xr, Sr, rfl, rfl, SmS.kept h1 (fun b hb => hk b (List.mem_append.2 (.inl hb))), SmSs.kept h2 (fun b hb => hk b (List.mem_append.2 (.inr hb)))⟩
termination_by structural es => es
end
theorem SmR.kept {oa : Option Addr} {cap : Nat} {es : List Sm} {S : List Nat} (h : SmR tE tS w oa cap es S) (hk : ∀ b ∈ S, w'.heap[b]? = w.heap[b]?) : SmR tE tS w' oa cap es S := by
  obtain ⟨xs, S', h1, rfl, h3⟩ := h
  exact ⟨xs, S', owns_kept h1 (fun b hb => hk b (List.mem_append.2 (.inl hb))), rfl, SmSs.kept h3 (fun b hb => hk b (List.mem_append.2 (.inr hb)))⟩
theorem DcR.kept {oa : Option Addr} {cap : Nat} {es : List Dc} {S : List Nat} (h : DcR tD w oa cap es S) (hk : ∀ b ∈ S, w'.heap[b]? = w.heap[b]?) : DcR tD w' oa cap es S := by
  obtain ⟨h1, rfl⟩ := h
  exact ⟨owns_kept h1 hk, rfl⟩
theorem ThS.kept {t : Th} {l : List Value} {S : List Nat} (h : ThS tE tS tD w t l S) (hk : ∀ b ∈ S, w'.heap[b]? = w.heap[b]?) : ThS tE tS tD w' t l S := by
  obtain ⟨ol, cl, ob, cb, Sl, Sb, h1, h2, h3, rfl⟩ := h
  exact ⟨ol, cl, ob, cb, Sl, Sb, h1, h2.kept (fun b hb => hk b (List.mem_append.2 (.inl hb))), h3.kept (fun b hb => hk b (List.mem_append.2 (.inr hb))), rfl⟩
theorem ThSs.kept : ∀ {es : List Th} {xs : List Value} {S : List Nat}, ThSs tE tS tD w es xs S → (∀ b ∈ S, w'.heap[b]? = w.heap[b]?) → ThSs tE tS tD w' es xs S
  | [], xs, S, h, hk => by rw [ThSs] at h ⊢; exact h
  | e :: r, xs, S, h, hk => by
    rw [ThSs] at h ⊢
    obtain ⟨v, S1, xr, Sr, rfl, rfl, h1, h2⟩ := h
    exact ⟨v, S1, xr, Sr, rfl, rfl, h1.kept (fun b hb => hk b (List.mem_append.2 (.inl hb))), ThSs.kept h2 (fun b hb => hk b (List.mem_append.2 (.inr hb)))⟩
theorem ThR.kept {oa : Option Addr} {cap : Nat} {es : List Th} {S : List Nat} (h : ThR tE tS tD tT w oa cap es S) (hk : ∀ b ∈ S, w'.heap[b]? = w.heap[b]?) : ThR tE tS tD tT w' oa cap es S := by
  obtain ⟨xs, S', h1, rfl, h3⟩ := h
  exact ⟨xs, S', owns_kept h1 (fun b hb => hk b (List.mem_append.2 (.inl hb))), rfl, ThSs.kept h3 (fun b hb => hk b (List.mem_append.2 (.inr hb)))⟩
theorem PgS.kept {p : Pg} {l : List Value} {S : List Nat} (h : PgS tE tS tD tT w p l S) (hk : ∀ b ∈ S, w'.heap[b]? = w.heap[b]?) : PgS tE tS tD tT w' p l S := by
  obtain ⟨os, cs, ol, cl, ot, ct, Ss, Sl, St, h1, h2, h3, h4, rfl⟩ := h
  exact ⟨os, cs, ol, cl, ot, ct, Ss, Sl, St, h1, h2.kept (fun b hb => hk b (by simp [hb])), h3.kept (fun b hb => hk b (by simp [hb])), h4.kept (fun b hb => hk b (by simp [hb])), rfl⟩

/-! ### the blocks are there -/
mutual
theorem ExS.lt : ∀ {e : Ex} {l : List Value} {S : List Nat}, ExS tE w e l S → ∀ b ∈ S, b < w.heap.size
  | .mk k op wd nm kids a, l, S, h, b, hb => by
    rw [ExS] at h
    obtain ⟨oa, cap, xs, S', h1, h2, rfl, h4⟩ := h
    rcases List.mem_append.1 hb with hb | hb
    · exact (owns_lt h2 b hb).2
    · exact ExSs.lt h4 b hb
termination_by structural e => e
theorem ExSs.lt : ∀ {es : List Ex} {xs : List Value} {S : List Nat}, ExSs tE w es xs S → ∀ b ∈ S, b < w.heap.size
  | [], xs, S, h, b, hb => by rw [ExSs] at h; rw [h.2] at hb; cases hb
  | e :: r, xs, S, h, b, hb => by
    rw [ExSs] at h
    obtain ⟨v, S1, xr, Sr, rfl, rfl, h1, h2⟩ := h
    rcases List.mem_append.1 hb with hb | hb
    · exact ExS.lt h1 b hb
    · exact ExSs.lt h2 b hb
termination_by structural es => es
end
theorem ExR.lt {oa : Option Addr} {cap : Nat} {es : List Ex} {S : List Nat} (h : ExR tE w oa cap es S) : ∀ b ∈ S, b < w.heap.size := by
  obtain ⟨xs, S', h1, rfl, h3⟩ := h
  intro b hb
  rcases List.mem_append.1 hb with hb | hb
  · exact (owns_lt h1 b hb).2
  · exact ExSs.lt h3 b hb
mutual
theorem SmS.lt : ∀ {e : Sm} {l : List Value} {S : List Nat}, SmS tE tS w e l S → ∀ b ∈ S, b < w.heap.size
  | .mk k nm other e body els a, l, S, h, b, hb => by
    rw [SmS] at h
    obtain ⟨oe, ce, ob, cb, ol, cl, Se, xb, Sb, xl, Sl, h1, h2, h3, h4, h5, h6, rfl⟩ := h
    simp only [List.mem_append] at hb
    rcases hb with hb | (hb | hb) | (hb | hb)
    · exact h2.lt b hb
    · exact (owns_lt h3 b hb).2
    · exact SmSs.lt h4 b hb
    · exact (owns_lt h5 b hb).2
    · exact SmSs.lt h6 b hb
termination_by structural e => e
theorem SmSs.lt : ∀ {es : List Sm} {xs : List Value} {S : List Nat}, SmSs tE tS w es xs S → ∀ b ∈ S, b < w.heap.size
  | [], xs, S, h, b, hb => by rw [SmSs] at h; rw [h.2] at hb; cases hb
  | e :: r, xs, S, h, b, hb => by
    rw [SmSs] at h
    obtain ⟨v, S1, xr, Sr, rfl, rfl, h1, h2⟩ := h
    rcases List.mem_append.1 hb with hb | hb
    · exact SmS.lt h1 b hb
    · exact SmSs.lt h2 b hb
termination_by structural es => es
end
theorem SmR.lt {oa : Option Addr} {cap : Nat} {es : List Sm} {S : List Nat} (h : SmR tE tS w oa cap es S) : ∀ b ∈ S, b < w.heap.size := by
  obtain ⟨xs, S', h1, rfl, h3⟩ := h
  intro b hb
  rcases List.mem_append.1 hb with hb | hb
  · exact (owns_lt h1 b hb).2
  · exact SmSs.lt h3 b hb
theorem DcR.lt {oa : Option Addr} {cap : Nat} {es : List Dc} {S : List Nat} (h : DcR tD w oa cap es S) : ∀ b ∈ S, b < w.heap.size := by
  obtain ⟨h1, rfl⟩ := h
  exact fun b hb => (owns_lt h1 b hb).2
theorem ThS.lt {t : Th} {l : List Value} {S : List Nat} (h : ThS tE tS tD w t l S) : ∀ b ∈ S, b < w.heap.size := by
  obtain ⟨ol, cl, ob, cb, Sl, Sb, h1, h2, h3, rfl⟩ := h
  intro b hb
  rcases List.mem_append.1 hb with hb | hb
  · exact h2.lt b hb
  · exact h3.lt b hb
theorem ThSs.lt : ∀ {es : List Th} {xs : List Value} {S : List Nat}, ThSs tE tS tD w es xs S → ∀ b ∈ S, b < w.heap.size
  | [], xs, S, h, b, hb => by rw [ThSs] at h; rw [h.2] at hb; cases hb
  | e :: r, xs, S, h, b, hb => by
    rw [ThSs] at h
    obtain ⟨v, S1, xr, Sr, rfl, rfl, h1, h2⟩ := h
    rcases List.mem_append.1 hb with hb | hb
    · exact h1.lt b hb
    · exact ThSs.lt h2 b hb
theorem ThR.lt {oa : Option Addr} {cap : Nat} {es : List Th} {S : List Nat} (h : ThR tE tS tD tT w oa cap es S) : ∀ b ∈ S, b < w.heap.size := by
  obtain ⟨xs, S', h1, rfl, h3⟩ := h
  intro b hb
  rcases List.mem_append.1 hb with hb | hb
  · exact (owns_lt h1 b hb).2
  · exact ThSs.lt h3 b hb
theorem PgS.lt {p : Pg} {l : List Value} {S : List Nat} (h : PgS tE tS tD tT w p l S) : ∀ b ∈ S, b < w.heap.size := by
  obtain ⟨os, cs, ol, cl, ot, ct, Ss, Sl, St, h1, h2, h3, h4, rfl⟩ := h
  intro b hb
  simp only [List.mem_append] at hb
  rcases hb with hb | hb | hb
  · exact h2.lt b hb
  · exact h3.lt b hb
  · exact h4.lt b hb

/-! ### lists of them -/
theorem ExSs_app : ∀ {a b : List Ex} {xs : List Value} {S : List Nat}, ExSs tE w (a ++ b) xs S ↔ ∃ xa xb Sa Sb, xs = xa ++ xb ∧ S = Sa ++ Sb ∧ ExSs tE w a xa Sa ∧ ExSs tE w b xb Sb
  | [], b, xs, S => by
    simp only [List.nil_append, ExSs]
    constructor
    · intro h; exact ⟨[], xs, [], S, rfl, rfl, ⟨rfl, rfl⟩, h⟩
    · rintro ⟨xa, xb, Sa, Sb, rfl, rfl, ⟨rfl, rfl⟩, h⟩; exact h
  | e :: r, b, xs, S => by
    simp only [List.cons_append, ExSs]
    constructor
    · rintro ⟨v, S1, xr, Sr, rfl, rfl, h1, h2⟩
      obtain ⟨xa, xb, Sa, Sb, rfl, rfl, h3, h4⟩ := ExSs_app.1 h2
      exact ⟨v ++ xa, xb, S1 ++ Sa, Sb, by simp, by simp, ⟨v, S1, xa, Sa, rfl, rfl, h1, h3⟩, h4⟩
    · rintro ⟨_, xb, _, Sb, rfl, rfl, ⟨v, S1, xa, Sa, rfl, rfl, h1, h3⟩, h4⟩
      exact ⟨v, S1, xa ++ xb, Sa ++ Sb, by simp, by simp, h1, ExSs_app.2 ⟨xa, xb, Sa, Sb, rfl, rfl, h3, h4⟩⟩
theorem SmSs_app : ∀ {a b : List Sm} {xs : List Value} {S : List Nat}, SmSs tE tS w (a ++ b) xs S ↔ ∃ xa xb Sa Sb, xs = xa ++ xb ∧ S = Sa ++ Sb ∧ SmSs tE tS w a xa Sa ∧ SmSs tE tS w b xb Sb
  | [], b, xs, S => by
    simp only [List.nil_append, SmSs]
    constructor
    · intro h; exact ⟨[], xs, [], S, rfl, rfl, ⟨rfl, rfl⟩, h⟩
    · rintro ⟨xa, xb, Sa, Sb, rfl, rfl, ⟨rfl, rfl⟩, h⟩; exact h
  | e :: r, b, xs, S => by
    simp only [List.cons_append, SmSs]
    constructor
    · rintro ⟨v, S1, xr, Sr, rfl, rfl, h1, h2⟩
      obtain ⟨xa, xb, Sa, Sb, rfl, rfl, h3, h4⟩ := SmSs_app.1 h2
      exact ⟨v ++ xa, xb, S1 ++ Sa, Sb, by simp, by simp, ⟨v, S1, xa, Sa, rfl, rfl, h1, h3⟩, h4⟩
    · rintro ⟨_, xb, _, Sb, rfl, rfl, ⟨v, S1, xa, Sa, rfl, rfl, h1, h3⟩, h4⟩
      exact ⟨v, S1, xa ++ xb, Sa ++ Sb, by simp, by simp, h1, SmSs_app.2 ⟨xa, xb, Sa, Sb, rfl, rfl, h3, h4⟩⟩
theorem ThSs_app : ∀ {a b : List Th} {xs : List Value} {S : List Nat}, ThSs tE tS tD w (a ++ b) xs S ↔ ∃ xa xb Sa Sb, xs = xa ++ xb ∧ S = Sa ++ Sb ∧ ThSs tE tS tD w a xa Sa ∧ ThSs tE tS tD w b xb Sb
  | [], b, xs, S => by
    simp only [List.nil_append, ThSs]
    constructor
    · intro h; exact ⟨[], xs, [], S, rfl, rfl, ⟨rfl, rfl⟩, h⟩
    · rintro ⟨xa, xb, Sa, Sb, rfl, rfl, ⟨rfl, rfl⟩, h⟩; exact h
  | e :: r, b, xs, S => by
    simp only [List.cons_append, ThSs]
    constructor
    · rintro ⟨v, S1, xr, Sr, rfl, rfl, h1, h2⟩
      obtain ⟨xa, xb, Sa, Sb, rfl, rfl, h3, h4⟩ := ThSs_app.1 h2
      exact ⟨v ++ xa, xb, S1 ++ Sa, Sb, by simp, by simp, ⟨v, S1, xa, Sa, rfl, rfl, h1, h3⟩, h4⟩
    · rintro ⟨_, xb, _, Sb, rfl, rfl, ⟨v, S1, xa, Sa, rfl, rfl, h1, h3⟩, h4⟩
      exact ⟨v, S1, xa ++ xb, Sa ++ Sb, by simp, by simp, h1, ThSs_app.2 ⟨xa, xb, Sa, Sb, rfl, rfl, h3, h4⟩⟩
theorem ExSs_one {e : Ex} {xs : List Value} {S : List Nat} : ExSs tE w [e] xs S ↔ ExS tE w e xs S := by
  simp only [ExSs]
  constructor
  · rintro ⟨v, S1, xr, Sr, rfl, rfl, h1, rfl, rfl⟩; simpa using h1
  · intro h; exact ⟨xs, S, [], [], by simp, by simp, h, rfl, rfl⟩
theorem SmSs_one {e : Sm} {xs : List Value} {S : List Nat} : SmSs tE tS w [e] xs S ↔ SmS tE tS w e xs S := by
  simp only [SmSs]
  constructor
  · rintro ⟨v, S1, xr, Sr, rfl, rfl, h1, rfl, rfl⟩; simpa using h1
  · intro h; exact ⟨xs, S, [], [], by simp, by simp, h, rfl, rfl⟩
theorem ThSs_one {e : Th} {xs : List Value} {S : List Nat} : ThSs tE tS tD w [e] xs S ↔ ThS tE tS tD w e xs S := by
  simp only [ThSs]
  constructor
  · rintro ⟨v, S1, xr, Sr, rfl, rfl, h1, rfl, rfl⟩; simpa using h1
  · intro h; exact ⟨xs, S, [], [], by simp, by simp, h, rfl, rfl⟩
theorem SmSs.snoc {a : List Sm} {e : Sm} {xs l : List Value} {S S1 : List Nat} (h : SmSs tE tS w a xs S) (h1 : SmS tE tS w e l S1) : SmSs tE tS w (a ++ [e]) (xs ++ l) (S ++ S1) := SmSs_app.2 ⟨xs, l, S, S1, rfl, rfl, h, SmSs_one.2 h1⟩
theorem ThSs.snoc {a : List Th} {e : Th} {xs l : List Value} {S S1 : List Nat} (h : ThSs tE tS tD w a xs S) (h1 : ThS tE tS tD w e l S1) : ThSs tE tS tD w (a ++ [e]) (xs ++ l) (S ++ S1) := ThSs_app.2 ⟨xs, l, S, S1, rfl, rfl, h, ThSs_one.2 h1⟩
theorem ThSs.get : ∀ {es : List Th} {xs : List Value} {S : List Nat} {j : Nat} {e : Th}, ThSs tE tS tD w es xs S → es[j]? = some e → ∃ Sj, ThS tE tS tD w e ((xs.drop (j * 4)).take 4) Sj ∧ ∀ b ∈ Sj, b ∈ S
  | [], xs, S, j, e, h, hj => by simp at hj
  | x :: r, xs, S, 0, e, h, hj => by
    rw [ThSs] at h
    obtain ⟨v, S1, xr, Sr, rfl, rfl, h1, h2⟩ := h
    simp only [List.getElem?_cons_zero, Option.some.injEq] at hj
    subst hj
    refine ⟨S1, ?_, fun b hb => List.mem_append.2 (.inl hb)⟩
    simpa [List.take_append_of_le_length, List.take_of_length_le, h1.len] using h1
  | x :: r, xs, S, j + 1, e, h, hj => by
    rw [ThSs] at h
    obtain ⟨v, S1, xr, Sr, rfl, rfl, h1, h2⟩ := h
    obtain ⟨Sj, h3, h4⟩ := ThSs.get h2 (by simpa using hj)
    refine ⟨Sj, ?_, fun b hb => List.mem_append.2 (.inr (h4 b hb))⟩
    rw [show (j + 1) * 4 = v.length + j * 4 by rw [h1.len]; omega, ← List.drop_drop, List.drop_left]
    exact h3

/-! ### read as rows -/
theorem rowC_own {oa : Option Addr} {n cap E sz : Nat} {xs : List Value} {S : Nat → Prop} (h : w.ownsRow 0 E sz (.slice oa n cap) n xs) (hS : ∀ b ∈ obk oa, S b) : RowC w S sz oa n (fun j => (xs.drop (j * sz)).take sz) := by
  rcases Nat.eq_zero_or_pos n with h0 | h0
  · exact .inl h0
  · right
    obtain ⟨g, c, e, -⟩ := own_form h h0
    simp only [Value.slice.injEq] at e
    obtain ⟨rfl, -, rfl⟩ := e
    refine ⟨g, 0, rfl, hS g (by simp [obk]), (owns_lt h g (by simp [obk])).2, fun j hj => ⟨?_, fun i v hi => ?_⟩⟩
    · have h1 : xs.length = n * sz := h.1
      have h2 : j * sz + sz ≤ n * sz := by rw [← Nat.succ_mul]; exact Nat.mul_le_mul_right _ hj
      simp; omega
    · rw [List.getElem?_take] at hi
      split at hi
      · rw [List.getElem?_drop] at hi
        rw [Nat.zero_add]
        exact own_cell h hi
      · cases hi
mutual
theorem ExS.toV {T : Nat → Prop} : ∀ {e : Ex} {l : List Value} {S : List Nat}, ExS tE w e l S → (∀ b ∈ S, T b) → ExV w T e l
  | .mk k op wd nm kids a, l, S, h, hS => by
    rw [ExS] at h
    obtain ⟨oa, cap, xs, S', rfl, h2, rfl, h4⟩ := h
    refine .mk _ (rowC_own h2 fun b hb => hS b (List.mem_append.2 (.inl hb))) ?_
    exact ExSs.toV h4 (fun b hb => hS b (List.mem_append.2 (.inr hb)))
termination_by structural e => e
theorem ExSs.toV {T : Nat → Prop} : ∀ {es : List Ex} {xs : List Value} {S : List Nat}, ExSs tE w es xs S → (∀ b ∈ S, T b) → ∀ (j : Nat) x, es[j]? = some x → ExV w T x ((xs.drop (j * 6)).take 6)
  | [], xs, S, h, hS, j, x, hx => by simp at hx
  | e :: r, xs, S, h, hS, 0, x, hx => by
    rw [ExSs] at h
    obtain ⟨v, S1, xr, Sr, rfl, rfl, h1, h2⟩ := h
    simp only [List.getElem?_cons_zero, Option.some.injEq] at hx
    subst hx
    have := ExS.toV h1 (fun b hb => hS b (List.mem_append.2 (.inl hb)))
    simpa [List.take_append_of_le_length, List.take_of_length_le, h1.len] using this
  | e :: r, xs, S, h, hS, j + 1, x, hx => by
    rw [ExSs] at h
    obtain ⟨v, S1, xr, Sr, rfl, rfl, h1, h2⟩ := h
    have := ExSs.toV h2 (fun b hb => hS b (List.mem_append.2 (.inr hb))) j x (by simpa using hx)
    rw [show (j + 1) * 6 = v.length + j * 6 by rw [h1.len]; omega, ← List.drop_drop, List.drop_left]
    exact this
termination_by structural es => es
end
theorem ExR.toRow {T : Nat → Prop} {oa : Option Addr} {cap : Nat} {es : List Ex} {S : List Nat} (h : ExR tE w oa cap es S) (hS : ∀ b ∈ S, T b) : ExRow w T oa es := by
  obtain ⟨xs, S', h1, rfl, h3⟩ := h
  exact ⟨_, rowC_own h1 fun b hb => hS b (List.mem_append.2 (.inl hb)), ExSs.toV h3 (fun b hb => hS b (List.mem_append.2 (.inr hb)))⟩
mutual
theorem SmS.toV {T : Nat → Prop} : ∀ {e : Sm} {l : List Value} {S : List Nat}, SmS tE tS w e l S → (∀ b ∈ S, T b) → SmV w T e l
  | .mk k nm other e body els a, l, S, h, hS => by
    rw [SmS] at h
    obtain ⟨oe, ce, ob, cb, ol, cl, Se, xb, Sb, xl, Sl, rfl, h2, h3, h4, h5, h6, rfl⟩ := h
    exact .mk _ _ (h2.toRow fun b hb => hS b (by simp [hb])) (rowC_own h3 fun b hb => hS b (by simp [hb])) (SmSs.toV h4 fun b hb => hS b (by simp [hb])) (rowC_own h5 fun b hb => hS b (by simp [hb])) (SmSs.toV h6 fun b hb => hS b (by simp [hb]))
termination_by structural e => e
theorem SmSs.toV {T : Nat → Prop} : ∀ {es : List Sm} {xs : List Value} {S : List Nat}, SmSs tE tS w es xs S → (∀ b ∈ S, T b) → ∀ (j : Nat) x, es[j]? = some x → SmV w T x ((xs.drop (j * 7)).take 7)
  | [], xs, S, h, hS, j, x, hx => by simp at hx
  | e :: r, xs, S, h, hS, 0, x, hx => by
    rw [SmSs] at h
    obtain ⟨v, S1, xr, Sr, rfl, rfl, h1, h2⟩ := h
    simp only [List.getElem?_cons_zero, Option.some.injEq] at hx
    subst hx
    have := SmS.toV h1 (fun b hb => hS b (List.mem_append.2 (.inl hb)))
    simpa [List.take_append_of_le_length, List.take_of_length_le, h1.len] using this
  | e :: r, xs, S, h, hS, j + 1, x, hx => by
    rw [SmSs] at h
    obtain ⟨v, S1, xr, Sr, rfl, rfl, h1, h2⟩ := h
    have := SmSs.toV h2 (fun b hb => hS b (List.mem_append.2 (.inr hb))) j x (by simpa using hx)
    rw [show (j + 1) * 7 = v.length + j * 7 by rw [h1.len]; omega, ← List.drop_drop, List.drop_left]
    exact this
termination_by structural es => es
end
theorem SmR.toRow {T : Nat → Prop} {oa : Option Addr} {cap : Nat} {es : List Sm} {S : List Nat} (h : SmR tE tS w oa cap es S) (hS : ∀ b ∈ S, T b) : SmRow w T oa es := by
  obtain ⟨xs, S', h1, rfl, h3⟩ := h
  exact ⟨_, rowC_own h1 fun b hb => hS b (List.mem_append.2 (.inl hb)), SmSs.toV h3 (fun b hb => hS b (List.mem_append.2 (.inr hb)))⟩
theorem dcs_chunk : ∀ {ds : List Dc} {j : Nat} {d : Dc}, ds[j]? = some d → ((ds.flatMap dcL).drop (j * 3)).take 3 = dcL d
  | [], j, d, h => by simp at h
  | x :: r, 0, d, h => by
    simp only [List.getElem?_cons_zero, Option.some.injEq] at h
    subst h
    simp [dcL]
  | x :: r, j + 1, d, h => by
    rw [List.flatMap_cons, show (j + 1) * 3 = (dcL x).length + j * 3 by simp [dcL]; omega, ← List.drop_drop, List.drop_left]
    exact dcs_chunk (by simpa using h)
theorem DcR.toRow {T : Nat → Prop} {oa : Option Addr} {cap : Nat} {es : List Dc} {S : List Nat} (h : DcR tD w oa cap es S) (hS : ∀ b ∈ S, T b) : DcRow w T oa es := by
  obtain ⟨h1, rfl⟩ := h
  refine (rowC_own h1 hS).imp id fun ⟨b, off, e, hb, hl, hc⟩ => ⟨b, off, e, hb, hl, fun j hj => ?_⟩
  have := hc j hj
  dsimp only at this
  rw [dcs_chunk (List.getElem?_eq_getElem hj)] at this
  simpa only [List.getD, List.getElem?_eq_getElem hj, Option.getD_some] using this
theorem ThS.toV {T : Nat → Prop} {t : Th} {l : List Value} {S : List Nat} (h : ThS tE tS tD w t l S) (hS : ∀ b ∈ S, T b) : ThV w T t l := by
  obtain ⟨ol, cl, ob, cb, Sl, Sb, h1, h2, h3, rfl⟩ := h
  exact ⟨ol, cl, ob, cb, h1, h2.toRow fun b hb => hS b (by simp [hb]), h3.toRow fun b hb => hS b (by simp [hb])⟩
theorem ThSs.toV {T : Nat → Prop} {es : List Th} {xs : List Value} {S : List Nat} (h : ThSs tE tS tD w es xs S) (hS : ∀ b ∈ S, T b) (j : Nat) (x : Th) (hx : es[j]? = some x) : ThV w T x ((xs.drop (j * 4)).take 4) := by
  obtain ⟨Sj, h1, h2⟩ := h.get hx
  exact h1.toV fun b hb => hS b (h2 b hb)
theorem ThR.toRow {T : Nat → Prop} {oa : Option Addr} {cap : Nat} {es : List Th} {S : List Nat} (h : ThR tE tS tD tT w oa cap es S) (hS : ∀ b ∈ S, T b) : ThRow w T oa es := by
  obtain ⟨xs, S', h1, rfl, h3⟩ := h
  exact ⟨_, rowC_own h1 fun b hb => hS b (List.mem_append.2 (.inl hb)), h3.toV (fun b hb => hS b (List.mem_append.2 (.inr hb)))⟩
theorem PgS.toV {T : Nat → Prop} {p : Pg} {l : List Value} {S : List Nat} (h : PgS tE tS tD tT w p l S) (hS : ∀ b ∈ S, T b) : PgV w T p l := by
  obtain ⟨os, cs, ol, cl, ot, ct, Ss, Sl, St, h1, h2, h3, h4, rfl⟩ := h
  exact ⟨os, cs, ol, cl, ot, ct, h1, h2.toRow fun b hb => hS b (by simp [hb]), h3.toRow fun b hb => hS b (by simp [hb]), h4.toRow fun b hb => hS b (by simp [hb])⟩

/-! ### new trees, held -/
/-- the blocks are new since 'n', each is named once -/
def Nw (n : Nat) (S : List Nat) : Prop := S.Nodup ∧ ∀ b ∈ S, n ≤ b
theorem Nw.nil {n : Nat} : Nw n [] := ⟨List.nodup_nil, by simp⟩
theorem Nw.le {n m : Nat} {S : List Nat} (h : Nw n S) (hm : m ≤ n) : Nw m S := ⟨h.1, fun b hb => Nat.le_trans hm (h.2 b hb)⟩
theorem Nw.app {n : Nat} {S T : List Nat} (h : Nw n S) (k : Nw n T) (hd : ∀ b ∈ S, b ∉ T) : Nw n (S ++ T) := ⟨List.nodup_append.2 ⟨h.1, k.1, fun a ha b hb e => hd a ha (e ▸ hb)⟩, fun b hb => by
  rcases List.mem_append.1 hb with h1 | h1
  · exact h.2 b h1
  · exact k.2 b h1⟩
theorem Nw.left {n : Nat} {S T : List Nat} (h : Nw n (S ++ T)) : Nw n S := ⟨(List.nodup_append.1 h.1).1, fun b hb => h.2 b (List.mem_append.2 (.inl hb))⟩
theorem Nw.right {n : Nat} {S T : List Nat} (h : Nw n (S ++ T)) : Nw n T := ⟨(List.nodup_append.1 h.1).2.1, fun b hb => h.2 b (List.mem_append.2 (.inr hb))⟩
/-- what hangs on the blocks 'S' alone -/
theorem loc_of {S : List Nat} {φ : World → Prop} (h : ∀ w w', φ w → (∀ b ∈ S, w'.heap[b]? = w.heap[b]?) → φ w') : Loc S φ := fun a b _ hk hp => h a b hp hk
theorem holds_of {base : Nat} {S : List Nat} {φ : World → Prop} (h : φ w) (hlt : ∀ b ∈ S, b < w.heap.size) (hk : ∀ w w', φ w → (∀ b ∈ S, w'.heap[b]? = w.heap[b]?) → φ w') : (Res.tree S φ).holds base w := ⟨h, hlt, loc_of hk⟩
end
end Sx


/- The engine, nineteenth part: rows of another's copied; new trees put together. -/
namespace Sx
open Go Go.RowKit
section
variable {w0 w w' : World} {M : List Nat} {hs : List Res}
variable {P : Program} {n : Fr} {L : List Oper} {Q : Exit → Act → World → Prop} {kn : Kn} {N : Act → World → Prop}
variable {d ty : Nat} {pos : String} {aft : Array Edge} {g : Option (Nat × Bool)}
/-- a row that can be read, or an empty one -/
def RdRowC (w : World) (oa : Option Addr) (l : List Value) : Prop := l = [] ∨ ∃ a, oa = some a ∧ ∀ k u, l[k]? = some u → w.cell? (a.add k) = some u
theorem run_append_none' (base : Nat) (t ty e : TypeId) (i : TypeInfo) (size c : Nat) (ht : P.underlying t = some (.slice e)) (hi : P.info? e = some i) (v : Value) (n : Nat) (xs : List Value) (hown : w.ownsRow base e size v n xs) :
    (Builtin.append_ #[t, t] ty #[v, .slice none 0 c]).run P w = .ok v w := by
  rcases hown.2 with ⟨rfl, rfl⟩ | ⟨g, cap, cur, rfl, _, _, hnc, _⟩
  · simp [Builtin.append_, run_underlying ht, Go.sizeOf, typeInfo, hi, Builtin.lenOf, Builtin.firstCells]
  · simp [Builtin.append_, run_underlying ht, Go.sizeOf, typeInfo, hi, Builtin.lenOf, Builtin.firstCells, hnc, storeCells]
theorem e_appr (st : St w0 M hs w) (i : Nat) {T E size bytes m len c : Nat} {x y : Operand} {v z : Value} {oa : Option Addr} {xs l : List Value} {ti : TypeInfo} (hw : gd L kn g = some true) (hd : okDst n (some d) = true)
    (hx : evO kn x = some v) (hy : evO kn y = some (.slice oa m c)) (hi : nth hs i = some (.own v E size len xs)) (hsrc : RdRowC w oa l)
    (ht : P.underlying T = some (.slice E)) (hinfo : P.info? E = some ti) (hz : ti.zero = some z) (hsize : ti.size = size) (hby : ti.bytes = bytes) (hzs : z.cells.size = size) (hsz : Nat.blt 0 size = true)
    (hl : l.length = m * size) (h1 : ∀ u ∈ l, u.oneCell' = true) (h63 : len + m ≤ maxLen) (hbytes : (len + m) * bytes ≤ 140737488355328) {len' : Nat} {ys : List Value} (hlen' : len + m = len') (hys : xs ++ l = ys)
    (next : ∀ oa cap w', St w0 M (setNth hs i (.own (.slice oa len' cap) E size len' ys)) w' → vN n N ((d, .slice oa len' cap) :: kn) w') :
    vS P n L Q ⟨some d, .call ⟨.builtin .append, #[x, y], #[T, T]⟩, ty, pos, aft, g⟩ N kn w := by
  subst hlen' hys
  have hsz' : 0 < size := by simpa [Nat.blt_eq] using hsz
  have hown0 : w.ownsRow w0.heap.size E size v len xs := st.res hi
  obtain ⟨v', w', hr, hown, hg, hat, ⟨oa', cap, rfl⟩⟩ : ∃ v' w', (Builtin.append_ #[T, T] ty #[v, .slice oa m c]).run P w = .ok v' w' ∧ w'.ownsRow w0.heap.size E size v' (len + m) (xs ++ l) ∧ w.grownBy w' v.ownBlock ∧
      (v'.ownBlock = v.ownBlock ∨ v'.ownBlock = some w.heap.size) ∧ ∃ oa cap, v' = .slice oa (len + m) cap := by
    have hform : ∀ {v' : Value} {w' : World} {k : Nat} {ys : List Value}, w'.ownsRow w0.heap.size E size v' k ys → ∃ oa cap, v' = .slice oa k cap := by
      intro v' w' k ys hown
      rcases hown.2 with ⟨rfl, h0⟩ | ⟨g, cap, cur, rfl, _⟩
      · exact ⟨none, 0, by rw [h0]⟩
      · exact ⟨_, _, rfl⟩
    have key : ∀ a, oa = some a → (∀ k u, l[k]? = some u → w.cell? (a.add k) = some u) → ∃ v' w', (Builtin.append_ #[T, T] ty #[v, .slice oa m c]).run P w = .ok v' w' ∧ w'.ownsRow w0.heap.size E size v' (len + m) (xs ++ l) ∧ w.grownBy w' v.ownBlock ∧
      (v'.ownBlock = v.ownBlock ∨ v'.ownBlock = some w.heap.size) ∧ ∃ oa cap, v' = .slice oa (len + m) cap := by
      rintro a rfl hc
      obtain ⟨v', w', hr, hown, hg, hnil, hat⟩ := run_append_own_at (P := P) w w0.heap.size T ty E ti z size bytes ht hinfo hz hsize hby hzs hsz' v len xs hown0 a m c l hl
        (fun k u hk => hc k u hk) h1 h63 hbytes st.chg.size
      exact ⟨v', w', hr, hown, hg, hat, hform hown⟩
    rcases hsrc with rfl | ⟨a, ha, hc⟩
    · obtain rfl : m = 0 := by
        simp only [List.length_nil] at hl
        rcases Nat.eq_zero_or_pos m with h | h
        · exact h
        · have := Nat.mul_pos h hsz'; omega
      cases oa with
      | none => exact ⟨v, w, run_append_none' w0.heap.size T ty E ti size c ht hinfo v len xs hown0, by simpa using hown0, ⟨rfl, rfl, rfl, Nat.le_refl _, fun _ _ _ => rfl⟩, .inl rfl, hform hown0⟩
      | some a => exact key a rfl (fun k u hk => by simp at hk)
    · exact key a ha hc
  refine e_bi [v, .slice oa m c] hw hd (by simp [hx, hy]) (w' := w') (fun cs => ?_) (next oa' cap w' (st.app hi hg hown hat))
  simp only [builtin, Sem.run_bind, List.toArray, hr]
  rfl
theorem dcs_len (ds : List Dc) : (ds.flatMap dcL).length = ds.length * 3 := by
  induction ds with
  | nil => rfl
  | cons x r ih => rw [List.flatMap_cons, List.length_append, ih]; simp [dcL]; omega
theorem dcs_one (ds : List Dc) : ∀ u ∈ ds.flatMap dcL, u.oneCell' = true := by
  intro u hu
  obtain ⟨x, _, hx⟩ := List.mem_flatMap.1 hu
  simp only [dcL, List.mem_cons, List.not_mem_nil, or_false] at hx
  rcases hx with rfl | rfl | rfl <;> rfl
/-- the owned row at 'i' is done: it is a tree with what hangs on it -/
theorem St.ownNw (st : St w0 M hs w) {i : Nat} {E size len cap : Nat} {oa : Option Addr} {xs : List Value} (hi : nth hs i = some (.own (.slice oa len cap) E size len xs)) : w.ownsRow 0 E size (.slice oa len cap) len xs ∧ Nw w0.heap.size (obk oa) := by
  have h : w.ownsRow w0.heap.size E size (.slice oa len cap) len xs := st.res hi
  refine ⟨owns_mono h (fun b _ => Nat.zero_le _), ?_, fun b hb => (owns_lt h b hb).1⟩
  cases oa <;> simp [obk]
/-- the first 'n' become one -/
theorem St.joinN (st : St w0 M hs w) (n : Nat) {q : Res} (hat : ∀ k ∈ q.at?, ∃ r ∈ hs.take n, k ∈ r.at?) (hq : q.holds w0.heap.size w) : St w0 M (q :: hs.drop n) w := by
  have hnd := st.nodup
  unfold Apart at hnd
  rw [← List.take_append_drop n hs, List.pairwise_append] at hnd
  obtain ⟨h1, h2, h3⟩ := hnd
  refine ⟨st.chg, List.pairwise_cons.2 ⟨fun x hx k hk hk' => ?_, h2⟩, fun x hx => ?_⟩
  · obtain ⟨r, hr, hkr⟩ := hat k hk
    exact h3 r hr x hx k hkr hk'
  · rcases List.mem_cons.1 hx with rfl | h
    · exact hq
    · exact st.here x (List.mem_of_mem_drop h)
/-- what two resources lie at is apart -/
theorem St.ne (st : St w0 M hs w) {i j : Nat} {r s : Res} (hij : i ≠ j) (hi : nth hs i = some r) (hj : nth hs j = some s) : ∀ k ∈ r.at?, k ∉ s.at? := apart_nth st.nodup hij hi hj
end
end Sx


namespace Go.Proofs.YtnmhlpnapgojjaaGreatDoor
open Go.RowKit Sx LexS _root_.Go.Proofs.Tryz
theorem Tryz.info63 : Tryz.prog.info? 63 = some Tryz.t63 := by kernel_rfl
theorem Tryz.info67 : Tryz.prog.info? 67 = some Tryz.t67 := by kernel_rfl
theorem Tryz.info69 : Tryz.prog.info? 69 = some Tryz.t69 := by kernel_rfl
section
variable {n0 : Nat}

end
end Go.Proofs.YtnmhlpnapgojjaaGreatDoor


namespace Go.Proofs.YtnmhlpnapgojjaaGreatDoor
open Go.RowKit Sx LexS _root_.Go.Proofs.Tryz
section
variable {n0 : Nat}

end
end Go.Proofs.YtnmhlpnapgojjaaGreatDoor


namespace Go.Proofs.YtnmhlpnapgojjaaGreatDoor
open Go.RowKit Sx LexS _root_.Go.Proofs.Tryz
def nameE (s : List UInt8) : Ex := .mk 2 0 0 s [] 0
def opE (op : Int) (x y : Ex) : Ex := .mk 4 op 0 [] [x, y] 0
/-- Expr's answer -/
def exprT (e : Ex) : List UInt8 × Nat := if rightE e 0 = true then (if (txtE e).length ≤ 65536 then (txtE e, 0) else ([], 4)) else ([], 40)
theorem exV_name (s : List UInt8) (w : World) (S : Nat → Prop) : ExV w S (nameE s) (exL (nameE s) none 0) := .mk (fun _ => []) (.inl rfl) (fun j x h => by simp at h)
theorem exV_two {w : World} {S : Nat → Prop} {op : Int} {x y : Ex} {lx ly : List Value} {b E : Nat} {fz : Nat × Nat} (h : w.heap[b]? = some (.cells (lx ++ ly).toArray E fz)) (hS : S b) (hx : ExV w S x lx) (hy : ExV w S y ly) : ExV w S (opE op x y) (exL (opE op x y) (some ⟨b, 0, none⟩) 2) := by
 have h6 := hx.len
 have h6' := hy.len
 refine .mk (fun j => if j = 0 then lx else ly) (.inr ⟨b, 0, rfl, hS, (Array.getElem?_eq_some_iff.1 h).1, fun j hj => ?_⟩) (fun j z hz => ?_)
 ·simp only [List.length_cons, List.length_nil] at hj
  rcases (by omega : j = 0 ∨ j = 1) with rfl | rfl
  ·refine ⟨h6, fun i v hi => ?_⟩
   refine cell_blk h ?_
   have hi' : lx[i]? = some v := hi
   rw [nth_eq, show 0 + 0 * 6 + i = i by omega, List.getElem?_append_left (List.getElem?_eq_some_iff.1 hi').1]
   exact hi'
  ·refine ⟨h6', fun i v hi => ?_⟩
   refine cell_blk h ?_
   rw [nth_eq, show 0 + 1 * 6 + i = lx.length + i by omega, List.getElem?_append_right (by omega), Nat.add_sub_cancel_left]
   exact hi
 ·match j, hz with
  | 0, hz => simp at hz; subst hz; exact hx
  | 1, hz => simp at hz; subst hz; exact hy
  | j + 2, hz => simp at hz
theorem rowC_one {w : World} {S : Nat → Prop} {b E sz : Nat} {fz : Nat × Nat} {l : List Value} {vs : Nat → List Value} (h : w.heap[b]? = some (.cells l.toArray E fz)) (hS : S b) (hl : l.length = sz) (hv : vs 0 = l) : RowC w S sz (some ⟨b, 0, none⟩) 1 vs := by
 refine .inr ⟨b, 0, rfl, hS, (Array.getElem?_eq_some_iff.1 h).1, fun j hj => ?_⟩
 obtain rfl : j = 0 := by omega
 rw [hv]
 refine ⟨hl, fun i v hi => cell_blk h ?_⟩
 rw [nth_eq, show 0 + 0 * sz + i = i by omega]
 exact hi
section
variable {n0 : Nat}

theorem name30_any (s : List UInt8) (w : World) : Ret Tryz.prog 33 [str s] w fun v w' => v = .agg (exL (nameE s) none 0).toArray ∧ Chg [] w w' := by
 refine ret_of [_] func33 rfl ntmps33 rfl ?_
 have st := St.init w []
 refine vc_seq (vc_region ?_)
 refine vc_e (e_al (l := [_, _, _, _, _, _]) st rfl rfl zeroValue42 rfl ?_)
 intro b2 w hb2 st
 refine vc_end (vq_then (vk2 0 2 (vc_seq (vc_region ?_))))
 refine ym ?_
 refine vy (y_bld (.agg #[_, _, _, _, _, _]) [(0, _), (3, _)] rfl (fun w => by simp [Instr.build, go_sem] <;> repeat' constructor)) ?_
 refine vc_e (e_sts (vs := [_, _, _, _, _, _]) st 0 rfl rfl rfl rfl rfl sizeOf42 rfl rfl (by (right; assumption)) ?_)
 intro w st; dsimp only [setNth, wr] at st
 refine vc_end (vq_then (vk1 2 (vc_ret ?_)))
 refine vq_ret1 st (.inl rfl) results33 (by exact .cell 0 rfl rfl isAgg42 sizeOf42) ?_
 refine ⟨_, rfl, ?_⟩
 exact ⟨rfl, st.chg⟩

theorem binary_any (op : Int) (x y : Ex) (o o' : Option Addr) (c c' : Nat) (w : World) : Ret Tryz.prog 32 [.int .u8 op, .agg (exL x o c).toArray, .agg (exL y o' c').toArray] w fun v w' => ∃ b, v = .agg (exL (opE op x y) (some ⟨b, 0, none⟩) 2).toArray ∧ w.heap.size ≤ b ∧ w'.heap[b]? = some (.cells (exL x o c ++ exL y o' c').toArray 42 (0, 0)) ∧ Chg [] w w' := by
 refine ret_of [_, _, _] func32 rfl ntmps32 rfl ?_
 have st := St.init w []
 refine vc_seq (vc_region ?_)
 refine vc_e (e_bx (l := [_, _, _, _, _, _]) st rfl rfl rfl rfl ?_)
 intro b4 w hb4 st
 refine vc_e (e_bx (l := [_, _, _, _, _, _]) st rfl rfl rfl rfl ?_)
 intro b5 w hb5 st
 refine vc_e (e_al (l := [_, _, _, _, _, _]) st rfl rfl zeroValue42 rfl ?_)
 intro b6 w hb6 st
 refine vc_end (vq_then (vk4 0 4 5 6 (vc_seq (vc_region ?_))))
 refine ym ?_
 refine yla st 2 [_, _, _, _, _, _] isAgg42 sizeOf42 ?_
 refine yla st 1 [_, _, _, _, _, _] isAgg42 sizeOf42 ?_
 refine vc_e (e_bsn (l := exL x o c ++ exL y o' c') (E := 42) st [(0, _), (1, _)] rfl rfl rfl (fun w => by simp [Instr.buildSlice, run_underlying underlying40, sizeOf42, zeroValue42, Instr.fill, newRow, newObj, Sem.run, go_sem, Value.cells]) ?_)
 intro b10 w hb10 st
 refine vy (y_bld (.agg #[_, _, _, _, _, _]) [(0, _), (1, _), (4, _)] rfl (fun w => by simp [Instr.build, go_sem] <;> repeat' constructor)) ?_
 refine vc_e (e_sts (vs := [_, _, _, _, _, _]) st 1 rfl rfl rfl rfl rfl sizeOf42 rfl rfl (by (right; assumption)) ?_)
 intro w st; dsimp only [setNth, wr] at st
 refine vc_end (vq_then (vk1 6 (vc_ret ?_)))
 refine vq_ret1 st (.inl rfl) results32 (by exact .cell 1 rfl rfl isAgg42 sizeOf42) ?_
 refine ⟨_, rfl, ?_⟩
 exact ⟨b10, rfl, hb10, st.res (i := 0) rfl, st.chg⟩

theorem exprT_any (e : Ex) (hok : OkE e) (l : List Value) (w : World) (hV : ExV w (· < w.heap.size) e l) (hsg : Sig w) (hlen : (txtE e).length ≤ 1099511627776) :
    Ret Tryz.prog 15 [.agg l.toArray] w fun v w' => v = .tuple #[str (exprT e).1, .int .i64 ((exprT e).2 : Int)] ∧ Chg [] w w' := by
 refine ret_of [_] func15 rfl ntmps15 rfl ?_
 have st := St.init w []
 obtain ⟨w0, rfl⟩ : ∃ w0, w0 = w := ⟨_, rfl⟩
 have h0 := hsg.pos
 obtain ⟨oa, cap, rfl, hr⟩ := ExV.inv hV
 refine vc_seq (vc_region ?_)
 refine vc_e (e_bx (l := [_, _, _, _, _, _]) st rfl rfl rfl rfl ?_)
 intro b1 w hb1 st
 iterate 2 refine ya ?_
 refine vc_end (vq_then (vk1 1 (vc_seq (vc_seq (vc_region ?_)))))
 refine yla st 0 [_, _, _, _, _, _] isAgg42 sizeOf42 ?_
 refine vc_e (e_call [_, _] rfl rfl call46 rfl (expr_any _ e rfl 0 (by omega) _ _ (hV.kept (Same.of_nil st.chg)) (hsg.kept st.chg)) ?_)
 rintro _ w ⟨rfl, cw⟩
 replace st := st.call0 cw
 refine vy (y_not rfl) ?_
 refine vc_end (vq_then (vk2 1 7 ?_))
 refine vc_ifs rfl ?_ ?_
 ·intro hc7
  try simp only [dn] at hc7
  refine vc_seq (vc_region ?_)
  iterate 2 refine ya ?_
  refine vc_end (vq_then (vk2 2 3 (vc_ret (vq_then_ret ?_))))
  refine vq_ret2 st (.inl rfl) results15 (.tmp rfl) (.tmp rfl) ?_
  refine ⟨_, rfl, ?_⟩
  refine ⟨?_, st.chg⟩
  unfold exprT
  rw [if_neg (by simp_all)]; rfl
 ·intro hc7
  try simp only [dn] at hc7
  refine vc_code_skip (vq_then (vk1 1 (vc_seq (vc_region ?_))))
  refine yla st 0 [_, _, _, _, _, _] isAgg42 sizeOf42 ?_
  refine vc_e (e_call [_, _] rfl rfl call47 rfl (text_any _ e rfl 0 (by assumption) hok (.slice none 0 0) [] _ _ (hV.kept (Same.of_nil st.chg)) (World.ownsRow_nil _ 0 5 1) (fun k hk => by simp [Value.ownBlock] at hk) st.chg.size h0 (hsg.kept st.chg) (by simpa using hlen)) ?_)
  rintro r w ⟨l2, hp, hT⟩
  obtain ⟨o2, c2, hv2⟩ := slice_form hp.1
  subst hv2
  replace st := st.call0 (by simpa [Value.ownBlock] using hp.2.1)
  obtain ⟨t1, t2, -, -⟩ := hT
  simp only [List.length_nil, Nat.zero_add, List.nil_append] at t1 t2
  refine ya ?_
  refine vc_end (vq_then (vk1 4 (vc_seq (vc_seq (vc_region ?_)))))
  refine ym ?_
  refine vy (y_lensl rfl underlying78) ?_
  refine vy (y_gtr rfl rfl) ?_
  refine vc_end (vq_then (vk2 4 12 ?_))
  refine vc_ifs rfl ?_ ?_
  ·intro hc12
   try simp only [dn] at hc12
   refine vc_seq (vc_region ?_)
   iterate 2 refine ya ?_
   refine vc_end (vq_then (vk2 2 3 (vc_ret (vq_then_ret ?_))))
   refine vq_ret2 st (.inl rfl) results15 (.tmp rfl) (.tmp rfl) ?_
   refine ⟨_, rfl, ?_⟩
   refine ⟨?_, st.chg⟩
   have hlong : 65536 < (txtE e).length := by
    rcases Nat.lt_or_ge 65536 (txtE e).length with h | h
    ·exact h
    ·rw [t1 h] at *; omega
   unfold exprT
   rw [if_pos (by assumption), if_neg (by omega)]; rfl
  ·intro hc12
   try simp only [dn] at hc12
   refine vc_code_skip (vq_then (vk1 4 (vc_seq (vc_region ?_))))
   refine ym ?_
   refine vy (y_b2s rfl (p := l2) (own_rdp hp.1) rfl underlying78 underlying5 underlying9) ?_
   iterate 2 refine ya ?_
   refine vc_end (vq_then (vk2 2 3 (vc_ret ?_)))
   refine vq_ret2 st (.inl rfl) results15 (.tmp rfl) (.tmp rfl) ?_
   refine ⟨_, rfl, ?_⟩
   refine ⟨?_, st.chg⟩
   have hshort : (txtE e).length ≤ 65536 := by
    rcases Nat.lt_or_ge 65536 (txtE e).length with h | h
    ·have := t2 h; omega
    ·exact h
   unfold exprT
   rw [if_pos (by assumption), if_pos hshort, t1 hshort]; rfl

def eA : Ex := opE 2 (nameE [97]) (opE 2 (nameE [98]) (nameE [99]))
def eB : Ex := opE 1 (nameE [97]) (opE 3 (nameE [98]) (nameE [99]))
theorem exprT_A : exprT eA = ([97, 32, 45, 32, 40, 98, 32, 45, 32, 99, 41], 0) := by kernel_rfl
theorem exprT_B : exprT eB = ([97, 32, 43, 32, 98, 32, 42, 32, 99], 0) := by kernel_rfl
def sK : Sm := .mk 7 [] [] [] [] [] 0
def pA : Pg := ⟨[⟨[120], -3, 0⟩], [], [⟨[116], [], [sK], 0⟩]⟩
def pB : Pg := ⟨[], [⟨[105, 102], 0, 0⟩], []⟩
theorem pgRes_A : pgRes pA = ([115, 104, 97, 114, 101, 100, 32, 120, 32, 61, 32, 45, 51, 59, 10, 116, 104, 114, 101, 97, 100, 32, 116, 32, 123, 10, 32, 32, 115, 107, 105, 112, 59, 10, 125, 10], 0) := by kernel_rfl
theorem pgRes_B : pgRes pB = ([], 40) := by kernel_rfl
theorem len_A : (pgT pA).length ≤ 1099511627776 := by decide
theorem len_B : (pgT pB).length ≤ 1099511627776 := by decide
theorem nm_ok (s : List UInt8) : OkE (nameE s) := .mk (by simp [u8]) (by simp [u8]) (by simp [i64]) (by simp [i64]) (by simp) (fun j x h => by simp at h)
theorem op_ok {op : Int} {x y : Ex} (ho : u8 op) (hx : OkE x) (hy : OkE y) : OkE (opE op x y) := .mk (by simp [u8]) ho (by simp [i64]) (by simp [i64]) (by simp) (fun j z h => by
  match j, h with
  | 0, h => simp at h; subst h; exact hx
  | 1, h => simp at h; subst h; exact hy
  | j + 2, h => simp at h)
theorem eA_ok : OkE eA := op_ok (by simp [u8]) (nm_ok _) (op_ok (by simp [u8]) (nm_ok _) (nm_ok _))
theorem eB_ok : OkE eB := op_ok (by simp [u8]) (nm_ok _) (op_ok (by simp [u8]) (nm_ok _) (nm_ok _))
theorem sK_ok : OkS sK := .mk (by simp [u8]) (by simp [i64]) ⟨by simp, fun j x h => by simp at h⟩ (by simp) (fun j x h => by simp at h) (by simp) (fun j x h => by simp at h)
theorem pA_ok : OkP pA := by
 refine ⟨⟨by decide, fun j x h => ?_⟩, ⟨by decide, fun j x h => by simp [pA] at h⟩, ⟨by decide, fun j t h => ?_⟩⟩
 ·match j, h with
  | 0, h => simp [pA] at h; subst h; simp [i64]
  | j + 1, h => simp [pA] at h
 ·match j, h with
  | 0, h =>
   simp [pA] at h; subst h
   refine ⟨⟨by simp, fun j x h => by simp at h⟩, ⟨by simp, fun j x h => ?_⟩, by simp [i64]⟩
   match j, h with
   | 0, h => simp at h; subst h; exact sK_ok
   | j + 1, h => simp at h
  | j + 1, h => simp [pA] at h
theorem pB_ok : OkP pB := by
 refine ⟨⟨by decide, fun j x h => by simp [pB] at h⟩, ⟨by decide, fun j x h => ?_⟩, ⟨by decide, fun j t h => by simp [pB] at h⟩⟩
 match j, h with
 | 0, h => simp [pB] at h; subst h; simp [i64]
 | j + 1, h => simp [pB] at h
theorem smV_K (w : World) (S : Nat → Prop) : SmV w S sK (smL sK none none none 0 0 0) := .mk (fun _ => []) (fun _ => []) ⟨fun _ => [], .inl rfl, fun j x h => by simp at h⟩ (.inl rfl) (fun j x h => by simp at h) (.inl rfl) (fun j x h => by simp at h)

set_option maxHeartbeats 2000000 in
theorem begins_any (w : World) (hsg : Sig w) : Ret Tryz.prog 9 [] w fun v w' => v = .bool true ∧ Chg [] w w' := by
 refine ret_of [] func9 rfl ntmps9 rfl ?_
 have st := St.init w []
 obtain ⟨w0, rfl⟩ : ∃ w0, w0 = w := ⟨_, rfl⟩
 refine vc_seq (vc_region ?_)
 refine ya ?_
 refine vc_end (vq_then (vc_keep [] trivial (vc_seq (vc_region ?_))))
 refine vc_e (e_call [_] rfl rfl call33 rfl (name30_any _ _) ?_)
 rintro _ w ⟨rfl, cw⟩
 replace st := st.call0 cw
 refine vc_e (e_call [_] rfl rfl call33 rfl (name30_any _ _) ?_)
 rintro _ w ⟨rfl, cw⟩
 replace st := st.call0 cw
 refine vc_e (e_call [_] rfl rfl call33 rfl (name30_any _ _) ?_)
 rintro _ w ⟨rfl, cw⟩
 replace st := st.call0 cw
 refine vc_e (e_call [_, _, _] rfl rfl call32 rfl (binary_any 2 (nameE [98]) (nameE [99]) none none 0 0 _) ?_)
 rintro _ w ⟨d0, rfl, hd0, hh0, cw0⟩
 replace st := st.call0 cw0
 refine vc_e (e_call [_, _, _] rfl rfl call32 rfl (binary_any 2 (nameE [97]) (opE 2 (nameE [98]) (nameE [99])) none (some ⟨d0, 0, none⟩) 0 2 _) ?_)
 rintro _ w ⟨d1, rfl, hd1, hh1, cw1⟩
 replace st := st.call0 cw1
 refine vc_e (e_call [_] rfl rfl call15 rfl (exprT_any eA eA_ok _ _ (exV_two (op := 2) (x := nameE [97]) (y := opE 2 (nameE [98]) (nameE [99])) hh1 (Array.getElem?_eq_some_iff.1 hh1).1 (exV_name _ _ _) (exV_two (cw1.heap hh0 (by simp)) (Array.getElem?_eq_some_iff.1 (cw1.heap hh0 (by simp))).1 (exV_name _ _ _) (exV_name _ _ _))) (hsg.kept st.chg) (by decide)) ?_)
 rintro _ w ⟨rfl, cw⟩
 replace st := st.call0 cw
 rw [exprT_A]
 refine ym ?_
 iterate 2 refine vy (y_ext rfl rfl) ?_
 iterate 2 refine ya ?_
 refine vc_end (vq_then (vk2 1 2 (vc_seq (vc_region ?_))))
 refine vc_e (e_call [_] rfl rfl call33 rfl (name30_any _ _) ?_)
 rintro _ w ⟨rfl, cw⟩
 replace st := st.call0 cw
 refine vc_e (e_call [_] rfl rfl call33 rfl (name30_any _ _) ?_)
 rintro _ w ⟨rfl, cw⟩
 replace st := st.call0 cw
 refine vc_e (e_call [_] rfl rfl call33 rfl (name30_any _ _) ?_)
 rintro _ w ⟨rfl, cw⟩
 replace st := st.call0 cw
 refine vc_e (e_call [_, _, _] rfl rfl call32 rfl (binary_any 3 (nameE [98]) (nameE [99]) none none 0 0 _) ?_)
 rintro _ w ⟨d2, rfl, hd2, hh2, cw2⟩
 replace st := st.call0 cw2
 refine vc_e (e_call [_, _, _] rfl rfl call32 rfl (binary_any 1 (nameE [97]) (opE 3 (nameE [98]) (nameE [99])) none (some ⟨d2, 0, none⟩) 0 2 _) ?_)
 rintro _ w ⟨d3, rfl, hd3, hh3, cw3⟩
 replace st := st.call0 cw3
 refine vc_e (e_call [_] rfl rfl call15 rfl (exprT_any eB eB_ok _ _ (exV_two (op := 1) (x := nameE [97]) (y := opE 3 (nameE [98]) (nameE [99])) hh3 (Array.getElem?_eq_some_iff.1 hh3).1 (exV_name _ _ _) (exV_two (cw3.heap hh2 (by simp)) (Array.getElem?_eq_some_iff.1 (cw3.heap hh2 (by simp))).1 (exV_name _ _ _) (exV_name _ _ _))) (hsg.kept st.chg) (by decide)) ?_)
 rintro _ w ⟨rfl, cw⟩
 replace st := st.call0 cw
 rw [exprT_B]
 refine ym ?_
 iterate 2 refine vy (y_ext rfl rfl) ?_
 iterate 2 refine ya ?_
 refine vc_end (vq_then (vk4 1 2 3 4 (vc_seq (vc_region ?_))))
 refine vy (y_bld (.agg #[_, _, _]) [(0, _), (1, _)] rfl (fun w => by simp [Instr.build, go_sem] <;> repeat' constructor)) ?_
 refine vc_e (e_bs1 (l := [_, _, _]) st rfl rfl rfl rfl underlying23 sizeOf63 rfl rfl rfl zeroValue63 ?_)
 intro b27 w hb27 st
 refine vy (y_bld (.agg #[_, _, _, _, _, _, _]) [(0, _)] rfl (fun w => by simp [Instr.build, go_sem] <;> repeat' constructor)) ?_
 refine vc_e (e_bs1 (l := [_, _, _, _, _, _, _]) st rfl rfl rfl rfl underlying65 sizeOf67 rfl rfl rfl zeroValue67 ?_)
 intro b29 w hb29 st
 refine vy (y_bld (.agg #[_, _, _, _]) [(0, _), (2, _)] rfl (fun w => by simp [Instr.build, go_sem] <;> repeat' constructor)) ?_
 refine vc_e (e_bs1 (l := [_, _, _, _]) st rfl rfl rfl rfl underlying24 sizeOf69 rfl rfl rfl zeroValue69 ?_)
 intro b31 w hb31 st
 refine vy (y_bld (.agg #[_, _, _]) [(0, _), (2, _)] rfl (fun w => by simp [Instr.build, go_sem] <;> repeat' constructor)) ?_
 refine vc_e (e_call [_] rfl rfl call11 rfl (wprintP_any pA _ _ _ _ _ _ _ (rowC_one (st.res (i := 2) rfl) (Array.getElem?_eq_some_iff.1 (st.res (i := 2) rfl)).1 rfl rfl) (.inl rfl) ⟨fun _ => thL ⟨[116], [], [sK], 0⟩ none _ 0 _, rowC_one (st.res (i := 0) rfl) (Array.getElem?_eq_some_iff.1 (st.res (i := 0) rfl)).1 rfl rfl, fun j x hj => by
     match j, hj with
     | 0, hj => simp [pA] at hj; subst hj; exact ⟨none, 0, _, _, rfl, .inl rfl, fun _ => smL sK none none none 0 0 0, rowC_one (st.res (i := 1) rfl) (Array.getElem?_eq_some_iff.1 (st.res (i := 1) rfl)).1 rfl rfl, fun j x hj => by
         match j, hj with
         | 0, hj => simp at hj; subst hj; exact smV_K _ _
         | j + 1, hj => simp at hj⟩
     | j + 1, hj => simp [pA] at hj⟩ pA_ok (hsg.kept st.chg) (fun _ => len_A)) ?_)
 rintro _ w ⟨rfl, cw⟩
 replace st := st.call0 cw
 rw [pgRes_A]
 refine ym ?_
 iterate 2 refine vy (y_ext rfl rfl) ?_
 iterate 2 refine ya ?_
 refine vc_end (vq_then (vk6 1 2 3 4 5 6 (vc_seq (vc_region ?_))))
 refine ym ?_
 refine vy (y_eqi rfl rfl) ?_
 refine vmb ?_ ?_
 ·intro hg38
  try simp only [dn] at hg38
  refine ym ?_
  refine vy (y_eqs rfl rfl) ?_
  refine ypt ?_
  refine vmb ?_ ?_
  ·intro hg42
   try simp only [dn] at hg42
   refine ym ?_
   refine vy (y_eqi rfl rfl) ?_
   refine ypt ?_
   refine vmb ?_ ?_
   ·intro hg46
    try simp only [dn] at hg46
    refine ym ?_
    refine vy (y_eqs rfl rfl) ?_
    refine ypt ?_
    refine vmb ?_ ?_
    ·intro hg50
     try simp only [dn] at hg50
     refine ym ?_
     refine vy (y_eqi rfl rfl) ?_
     refine ypt ?_
     refine vmb ?_ ?_
     ·intro hg54
      try simp only [dn] at hg54
      refine ym ?_
      refine vy (y_eqs rfl rfl) ?_
      refine ypt ?_
      refine vmb ?_ ?_
      ·intro hg58
       try simp only [dn] at hg58
       refine vy (y_bld (.agg #[_, _, _]) [(0, _)] rfl (fun w => by simp [Instr.build, go_sem] <;> repeat' constructor)) ?_
       refine vc_e (e_bs1 (l := [_, _, _]) st rfl rfl rfl rfl underlying23 sizeOf63 rfl rfl rfl zeroValue63 ?_)
       intro b60 w hb60 st
       refine vy (y_bld (.agg #[_, _, _]) [(1, _)] rfl (fun w => by simp [Instr.build, go_sem] <;> repeat' constructor)) ?_
       refine vc_e (e_call [_] rfl rfl call34 rfl (wcheckP_any pB _ _ _ _ _ _ _ (.inl rfl) (rowC_one (st.res (i := 0) rfl) (Array.getElem?_eq_some_iff.1 (st.res (i := 0) rfl)).1 rfl rfl) ⟨fun _ => [], .inl rfl, fun j x hj => by simp [pB] at hj⟩ pB_ok (hsg.kept st.chg) (fun _ => len_B)) ?_)
       rintro _ w ⟨rfl, cw⟩
       replace st := st.call0 cw
       rw [pgRes_B]
       refine vy (y_eqi rfl rfl) ?_
       refine ypt ?_
       refine ya ?_
       refine vc_end (vq_then (vk1 0 (vc_ret ?_)))
       refine vq_ret1 st (.inl rfl) results9 (.tmp rfl) ?_
       refine ⟨_, rfl, ?_⟩
       exact ⟨rfl, st.chg⟩
      ·intro hg58
       try simp only [dn] at hg58
       iterate 5 refine vsk ?_
       refine ypf ?_
       refine ya ?_
       refine vc_end (vq_then (vk1 0 (vc_ret ?_)))
       refine vq_ret1 st (.inl rfl) results9 (.tmp rfl) ?_
       refine ⟨_, rfl, ?_⟩
       (exfalso; simp_all; done)
     ·intro hg54
      try simp only [dn] at hg54
      iterate 2 refine vsk ?_
      refine ypf ?_
      refine ym ?_
      iterate 5 refine vsk ?_
      refine ypf ?_
      refine ya ?_
      refine vc_end (vq_then (vk1 0 (vc_ret ?_)))
      refine vq_ret1 st (.inl rfl) results9 (.tmp rfl) ?_
      refine ⟨_, rfl, ?_⟩
      (exfalso; simp_all; done)
    ·intro hg50
     try simp only [dn] at hg50
     iterate 2 refine vsk ?_
     refine ypf ?_
     refine ym ?_
     iterate 2 refine vsk ?_
     refine ypf ?_
     refine ym ?_
     iterate 5 refine vsk ?_
     refine ypf ?_
     refine ya ?_
     refine vc_end (vq_then (vk1 0 (vc_ret ?_)))
     refine vq_ret1 st (.inl rfl) results9 (.tmp rfl) ?_
     refine ⟨_, rfl, ?_⟩
     (exfalso; simp_all; done)
   ·intro hg46
    try simp only [dn] at hg46
    iterate 2 refine vsk ?_
    refine ypf ?_
    refine ym ?_
    iterate 2 refine vsk ?_
    refine ypf ?_
    refine ym ?_
    iterate 2 refine vsk ?_
    refine ypf ?_
    refine ym ?_
    iterate 5 refine vsk ?_
    refine ypf ?_
    refine ya ?_
    refine vc_end (vq_then (vk1 0 (vc_ret ?_)))
    refine vq_ret1 st (.inl rfl) results9 (.tmp rfl) ?_
    refine ⟨_, rfl, ?_⟩
    (exfalso; simp_all; done)
  ·intro hg42
   try simp only [dn] at hg42
   iterate 2 refine vsk ?_
   refine ypf ?_
   refine ym ?_
   iterate 2 refine vsk ?_
   refine ypf ?_
   refine ym ?_
   iterate 2 refine vsk ?_
   refine ypf ?_
   refine ym ?_
   iterate 2 refine vsk ?_
   refine ypf ?_
   refine ym ?_
   iterate 5 refine vsk ?_
   refine ypf ?_
   refine ya ?_
   refine vc_end (vq_then (vk1 0 (vc_ret ?_)))
   refine vq_ret1 st (.inl rfl) results9 (.tmp rfl) ?_
   refine ⟨_, rfl, ?_⟩
   (exfalso; simp_all; done)
 ·intro hg38
  try simp only [dn] at hg38
  iterate 2 refine vsk ?_
  refine ypf ?_
  refine ym ?_
  iterate 2 refine vsk ?_
  refine ypf ?_
  refine ym ?_
  iterate 2 refine vsk ?_
  refine ypf ?_
  refine ym ?_
  iterate 2 refine vsk ?_
  refine ypf ?_
  refine ym ?_
  iterate 2 refine vsk ?_
  refine ypf ?_
  refine ym ?_
  iterate 5 refine vsk ?_
  refine ypf ?_
  refine ya ?_
  refine vc_end (vq_then (vk1 0 (vc_ret ?_)))
  refine vq_ret1 st (.inl rfl) results9 (.tmp rfl) ?_
  refine ⟨_, rfl, ?_⟩
  (exfalso; simp_all; done)

end
end Go.Proofs.YtnmhlpnapgojjaaGreatDoor


namespace Go.Proofs.YtnmhlpnapgojjaaGreatDoor
open Go.RowKit Sx LexS _root_.Go.Proofs.Tryz
section
variable {n0 : Nat}

end
end Go.Proofs.YtnmhlpnapgojjaaGreatDoor


namespace Go.Proofs.YtnmhlpnapgojjaaGreatDoor
open Go.RowKit Sx LexS _root_.Go.Proofs.Tryz
section
variable {n0 : Nat}

end
end Go.Proofs.YtnmhlpnapgojjaaGreatDoor


/- The engine, twenty-first part: trees that are written over in their own places. -/
namespace Sx
open Go Go.RowKit

section
variable {α : Type} {V : World → α → List Value → List Nat → Prop} {w w' : World} {sz : Nat}
end
section
variable {w0 w w' : World} {M : List Nat} {hs : List Res}
variable {P : Program} {n : Fr} {L : List Oper} {Q : Exit → Act → World → Prop} {kn : Kn} {N : Act → World → Prop}
variable {d ty : Nat} {pos : String} {aft : Array Edge} {g : Option (Nat × Bool)}
end
end Sx


/- The engine, twenty-third part: the rows of the language's trees, one of a row written over. -/
namespace Sx
open Go Go.RowKit
section
variable {tE tS tD tT : Nat} {w w' : World}
/-- what a row's block is: it is there, not frozen, and of the tree -/
structure RowAt (w : World) (b : Nat) (S : List Nat) : Prop where
  mem : b ∈ S
  lt : b < w.heap.size
  fz : ∀ i, w.frozen? ⟨b, i, none⟩ = false
end
/-- a tree falls in two -/
theorem St.split {w0 w : World} {M S T : List Nat} {hs : List Res} {χ φ ψ : World → Prop} (st : St w0 M (.tree (S ++ T) χ :: hs) w) (hn : (S ++ T).Nodup) (h1 : φ w) (h2 : ψ w) (k1 : Sx.Loc S φ) (k2 : Sx.Loc T ψ) : St w0 M (.tree S φ :: .tree T ψ :: hs) w := by
  have h := st.res (i := 0) rfl
  have hnd := List.pairwise_cons.1 st.nodup
  refine ⟨st.chg, List.pairwise_cons.2 ⟨fun x hx => ?_, List.pairwise_cons.2 ⟨fun x hx k hk => hnd.1 x hx k (List.mem_append.2 (.inr hk)), hnd.2⟩⟩, fun x hx => ?_⟩
  · rcases List.mem_cons.1 hx with rfl | hx
    · exact fun k hk hk' => (List.nodup_append.1 hn).2.2 k hk k hk' rfl
    · exact fun k hk => hnd.1 x hx k (List.mem_append.2 (.inl hk))
  · rcases List.mem_cons.1 hx with rfl | hx
    · exact ⟨h1, fun k hk => h.2.1 k (List.mem_append.2 (.inl hk)), k1⟩
    · rcases List.mem_cons.1 hx with rfl | hx
      · exact ⟨h2, fun k hk => h.2.1 k (List.mem_append.2 (.inr hk)), k2⟩
      · exact st.here x (.tail _ hx)
end Sx


/- A map that counts words: its keys in the order of their birth; a range over it. -/
namespace Sx
open Go Go.RowKit

abbrev Wd := List UInt8
/-- what the entries of such a map are -/
structure Ents (es : List MapEntry) (ks : List Wd) : Prop where
  key : es.map (·.key) = ks.map str
  val : ∀ e ∈ es, ∃ c, e.val = .int .i64 c
  born : ∀ (i : Nat) (e : MapEntry), es[i]? = some e → e.born = i

theorem bytes_beq (s t : Wd) : ((⟨s.toArray⟩ : ByteArray) == ⟨t.toArray⟩) = decide (s = t) := by
  show (s.toArray == t.toArray) = _
  rw [Bool.eq_iff_iff]; simp

section
variable {P : Program} {n : Fr} {L : List Oper} {Q : Exit → Act → World → Prop} {kn : Kn} {w0 w : World} {M : List Nat} {hs : List Res} {N : Act → World → Prop}
variable {d ty : Nat} {pos : String} {aft : Array Edge} {g : Option (Nat × Bool)}

theorem checkKey_str {k : Nat} (hk : P.underlying k = some .string) (em : Bool) (s : Wd) (w : World) : (Instr.checkKey em 10000 k (str s)).run P w = .ok () w := by
  show (Instr.checkKey em (9999 + 1) k (str s)).run P w = _
  unfold Instr.checkKey
  simp [Sem.run_bind, underlying, Sem.run, hk, Result.andThen, str]

theorem findKey_str {k : Nat} (hk : P.underlying k = some .string) {s : Wd} {es : List MapEntry} {r : Option (Nat × Value)} (h : Instr.findNow .string (str s) es 0 = some r) (w : World) : (Instr.findKey k (str s) es).run P w = .ok r w := by
  simp [Instr.findKey, Sem.run_bind, underlying, Sem.run, hk, Result.andThen, h]

theorem setObj_chg {b : Nat} {o o' : Obj} (hb : w.heap[b]? = some o) (hn : ∀ c e f, o ≠ .cells c e f) : (setObj b o').run P w = .ok () (ChangeMaps.setBlock w b o') ∧ Chg [b] w (ChangeMaps.setBlock w b o') ∧ (ChangeMaps.setBlock w b o').heap[b]? = some o' := by
  have hlt := (Array.getElem?_eq_some_iff.1 hb).1
  refine ⟨?_, ⟨rfl, rfl, rfl, by simp [ChangeMaps.setBlock], fun i _ hi => ?_⟩, ?_⟩
  · simp only [setObj, Sem.run, hb, ChangeMaps.setBlock]
    try (cases o <;> first | rfl | exact absurd rfl (hn _ _ _))
  · simp only [ChangeMaps.setBlock]; rw [Array.getElem?_setIfInBounds_ne (fun e => hi (by simp [e]))]
  · simp only [ChangeMaps.setBlock]; rw [Array.getElem?_setIfInBounds_self_of_lt hlt]

/-! ## the range -/
end
end Sx

