/- A part of the proof: contracts of functions and plain laws; each theorem says its own conditions. -/
import Derived.Test.YtnmhlpnapgojjaaGreatDoorPrettyBackK1
import Derived.Test.YtnmhlpnapgojjaaGreatDoorPrettyBackK10
import Derived.Test.YtnmhlpnapgojjaaGreatDoorPrettyBackK15
import Derived.Test.YtnmhlpnapgojjaaGreatDoorPrettyBackK16
namespace Go.Proofs.YtnmhlpnapgojjaaGreatDoor
open Go.RowKit Sx LexS ParS _root_.Go.Proofs.Tryz
set_option linter.unusedVariables false
set_option linter.unusedSimpArgs false
theorem exV_row {w : World} {S : Nat → Prop} {e : Ex} {oa : Option Addr} {ca : Nat} (h : ExRow w S oa e.kids) : ExV w S e (exC e oa ca) := by
 obtain ⟨vs, h1, h2⟩ := h
 cases e
 exact .mk vs h1 h2
theorem same_z {p q : Pg} (h : zP q = zP p) : sameP p q = true := sameP_iff.2 h.symm
theorem sameE_z {x y : Ex} (h : zE y = zE x) : sameE x y = true := (sameE_iff _ x rfl y).2 h.symm

theorem pgRes_zero {p : Pg} {s : List UInt8} (h : pgRes p = (s, 0)) : pgOk p = true ∧ (pgT p).length ≤ 65536 ∧ pgT p = s := by
 unfold pgRes at h
 split at h
 ·split at h
  ·rename_i h1 h2; simp only [Prod.mk.injEq, and_true] at h; exact ⟨h1, h2, h⟩
  ·simp at h
 ·simp at h
theorem pgRes_not {p : Pg} {s : List UInt8} {e : Nat} (h : pgRes p = (s, e)) (he : e ≠ 0) : s = [] ∧ (e = 4 ∨ e = 40) := by
 unfold pgRes at h
 split at h
 ·split at h
  ·simp only [Prod.mk.injEq] at h; omega
  ·simp only [Prod.mk.injEq] at h; exact ⟨h.1.symm, .inl h.2.symm⟩
 ·simp only [Prod.mk.injEq] at h; exact ⟨h.1.symm, .inr h.2.symm⟩
theorem exprT_zero {e : Ex} {s : List UInt8} (h : exprT e = (s, 0)) : rightE e 0 = true ∧ (txtE e).length ≤ 65536 ∧ txtE e = s := by
 unfold exprT at h
 split at h
 ·split at h
  ·rename_i h1 h2; simp only [Prod.mk.injEq, and_true] at h; exact ⟨h1, h2, h⟩
  ·simp at h
 ·simp at h
theorem exprT_not {e : Ex} {s : List UInt8} {n : Nat} (h : exprT e = (s, n)) (he : n ≠ 0) : s = [] := by
 unfold exprT at h
 split at h
 ·split at h
  ·simp only [Prod.mk.injEq] at h; omega
  ·simp only [Prod.mk.injEq] at h; exact h.1.symm
 ·simp only [Prod.mk.injEq] at h; exact h.1.symm

set_option maxHeartbeats 4000000 in
theorem lawPrettyBack (p : Pg) (e : Ex) (os ol ot oe : Option Addr) (cs cl ct ce : Nat) (w : World) (hSh : DcRow w (· < w.heap.size) os p.shared) (hL : DcRow w (· < w.heap.size) ol p.locks) (hT : ThRow w (· < w.heap.size) ot p.threads) (hok : OkP p) (hre : ExRow w (· < w.heap.size) oe e.kids) (hoe : OkE e) (hsg : Sig w)
    (hlen : pgOk p = true → (pgT p).length ≤ 1099511627776) (hle : (txtE e).length ≤ 1099511627776) :
  Ret Tryz.prog 4 [.agg (pgL p os ol ot cs cl ct).toArray, .agg (exC e oe ce).toArray] w fun v w' => v = .bool true ∧ Chg [] w w' := by
 refine ret_of [_, _] func4 rfl ntmps4 rfl ?_
 have st := St.init w []
 obtain ⟨w0, rfl⟩ : ∃ w0, w0 = w := ⟨_, rfl⟩
 refine vc_seq (vc_region ?_)
 refine vc_e (e_bx (l := [_, _, _]) st rfl rfl rfl rfl ?_)
 intro b2 w hb2 st
 refine vc_e (e_bx (l := [_, _, _, _, _, _]) st rfl rfl rfl rfl ?_)
 intro b3 w hb3 st
 refine ya ?_
 refine vc_end (vq_then (vk2 2 3 (vc_seq (vc_seq (vc_region ?_)))))
 refine vc_e (e_call [] rfl rfl call9 rfl (begins_any _ (hsg.kept st.chg)) ?_)
 rintro _ w ⟨rfl, cw⟩
 replace st := st.call0 cw
 refine vy (y_not rfl) ?_
 refine vc_end (vq_then (vk3 2 3 14 ?_))
 refine vc_ifs rfl ?_ ?_
 ·intro hc14
  exact absurd hc14 (by decide)
 ·intro hc14
  try simp only [dn] at hc14
  refine vc_code_skip (vq_then (vk2 2 3 (vc_seq (vc_region ?_))))
  refine yla st 1 [_, _, _] isAgg26 sizeOf26 ?_
  refine vc_e (e_call [_] rfl rfl call11 rfl (wprintP_any p _ _ _ _ _ _ _ (RowC.mono (RowC.kept hSh (Same.of_nil st.chg)) (fun b hb => Nat.lt_of_lt_of_le hb st.chg.size)) (RowC.mono (RowC.kept hL (Same.of_nil st.chg)) (fun b hb => Nat.lt_of_lt_of_le hb st.chg.size)) ((hT.kept (Same.of_nil st.chg)).mono (fun b hb => Nat.lt_of_lt_of_le hb st.chg.size)) hok (hsg.kept st.chg) hlen) ?_)
  rintro _ w ⟨rfl, cw⟩
  replace st := st.call0 cw
  obtain ⟨s, e1, hpr⟩ : ∃ s e1, pgRes p = (s, e1) := ⟨_, _, rfl⟩
  rw [hpr]
  refine ym ?_
  iterate 2 refine vy (y_ext rfl rfl) ?_
  iterate 2 refine ya ?_
  refine vc_end (vq_then (vk4 2 3 5 6 (vc_seq (vc_seq (vc_region ?_)))))
  refine ym ?_
  refine vy (y_eqi rfl rfl) ?_
  refine vc_end (vq_then (vk5 2 3 5 6 21 ?_))
  refine vc_ifs rfl ?_ ?_
  ·intro hc21
   try simp only [dn] at hc21
   have he1 : e1 = 0 := by omega
   subst he1
   obtain ⟨hpg, hln, rfl⟩ := pgRes_zero hpr
   obtain ⟨q, hq, hz⟩ := parse_printed hpg hok hln
   refine vc_seq (vc_region ?_)
   refine ym ?_
   refine vc_e (e_call [_] rfl rfl call10 rfl (Pq.parse_any (pgT p) _ (SigAt.kept hsg st.chg (by simp))) ?_)
   rintro _ w h
   rw [Pq.ParsePost, hq] at h
   dsimp only at h
   obtain ⟨cw, _, ⟨os1, ol1, ot1, cs1, cl1, ct1, Sq1, rfl, hQ1, hN⟩, rfl⟩ := h
   replace st := st.pushR cw (Sx.holds_pg hQ1) hN.2
   refine ym ?_
   iterate 3 refine vy (y_ext rfl rfl) ?_
   refine vc_e (e_al (l := [_, _, _]) st rfl rfl zeroValue26 rfl ?_)
   intro b7 w hb7 st
   refine vc_e (e_al (l := [_, _]) st rfl rfl zeroValue29 rfl ?_)
   intro b9 w hb9 st
   refine vc_e (e_sts (vs := [_, _, _]) st 1 rfl rfl rfl rfl rfl sizeOf26 rfl rfl (by (right; assumption)) ?_)
   intro w st; dsimp only [setNth, wr] at st
   refine ya ?_
   refine vc_e (e_sts (vs := [_, _]) st 0 rfl rfl rfl rfl rfl sizeOf29 rfl rfl (by (right; assumption)) ?_)
   intro w st; dsimp only [setNth, wr] at st
   refine vc_end (vq_then (vk4 2 3 7 8 (vc_seq (vc_region ?_))))
   refine ym ?_
   refine vy (y_nei rfl rfl) ?_
   refine vmb ?_ ?_
   ·intro hg30
    exact absurd hg30 (by decide)
   ·intro hg30
    try simp only [dn] at hg30
    refine yla st 4 [_, _, _] isAgg26 sizeOf26 ?_
    refine yla st 1 [_, _, _] isAgg26 sizeOf26 ?_
    refine vc_e (e_call [_, _] rfl rfl call14 rfl (rsamePg_any (S := fun _ => True) p q hok _ _ _ _ _ _ _ _ _ _ _ _ _ (RowC.mono (RowC.kept hSh (Same.of_nil st.chg)) (fun _ _ => trivial)) (RowC.mono (RowC.kept hL (Same.of_nil st.chg)) (fun _ _ => trivial)) ((hT.kept (Same.of_nil st.chg)).mono (fun _ _ => trivial)) (pgS_rows (st.res (i := 2) rfl).1).1 (pgS_rows (st.res (i := 2) rfl).1).2.1 (pgS_rows (st.res (i := 2) rfl).1).2.2) ?_)
    rintro _ w ⟨rfl, cw⟩
    replace st := st.call0 cw
    rw [same_z hz]
    refine vy (y_not rfl) ?_
    refine ypf ?_
    refine vc_end (vq_then (vk2 3 35 ?_))
    refine vc_ifs rfl ?_ ?_
    ·intro hc35
     exact absurd hc35 (by decide)
    ·intro hc35
     try simp only [dn] at hc35
     refine vc_code_skip (vq_then (vk1 3 (vc_seq (vc_region ?_))))
     refine yla st 3 [_, _, _, _, _, _] isAgg42 sizeOf42 ?_
     refine vc_e (e_call [_] rfl rfl call15 rfl (exprT_any e hoe _ _ ((exV_row hre).kept (Same.of_nil st.chg) |>.mono (fun b hb => Nat.lt_of_lt_of_le hb st.chg.size)) (hsg.kept st.chg) hle) ?_)
     rintro _ w ⟨rfl, cw⟩
     replace st := st.call0 cw
     obtain ⟨s2, e2, hpe⟩ : ∃ s e1, exprT e = (s, e1) := ⟨_, _, rfl⟩
     rw [hpe]
     refine ym ?_
     iterate 2 refine vy (y_ext rfl rfl) ?_
     iterate 2 refine ya ?_
     refine vc_end (vq_then (vk3 3 5 6 (vc_seq (vc_seq (vc_region ?_)))))
     refine ym ?_
     refine vy (y_nei rfl rfl) ?_
     refine vc_end (vq_then (vk3 3 5 52 ?_))
     refine vc_ifs rfl ?_ ?_
     ·intro hc52
      try simp only [dn] at hc52
      have hne2 := exprT_not hpe (by omega)
      refine vc_seq (vc_region ?_)
      refine ym ?_
      refine vy (y_eqs rfl rfl) ?_
      refine ya ?_
      refine vc_end (vq_then (vk1 4 (vc_ret (vq_then_ret ?_))))
      refine vq_ret1 st (.inl rfl) results4 (.tmp rfl) ?_
      refine ⟨_, rfl, ?_⟩
      refine ⟨?_, st.chg⟩
      (simp [hne2]; done)
     ·intro hc52
      try simp only [dn] at hc52
      have he2 : e2 = 0 := by omega
      subst he2
      obtain ⟨hre2, hle2, rfl⟩ := exprT_zero hpe
      obtain ⟨y, hy, hzy⟩ := expr_printed hre2 hoe hle2
      refine vc_code_skip (vq_then (vk2 3 5 (vc_seq (vc_region ?_))))
      refine ym ?_
      refine vc_e (e_call [_] rfl rfl call16 rfl (Pq.expr_any (txtE e) _ (SigAt.kept hsg st.chg (by simp))) ?_)
      rintro _ w h
      rw [Pq.ExprPost, hy] at h
      dsimp only at h
      obtain ⟨cw, _, ⟨oq, cq, Sq, rfl, hQ2, hN⟩, rfl⟩ := h
      replace st := st.pushR cw (holds_ex hQ2) hN.2
      refine ym ?_
      iterate 3 refine vy (y_ext rfl rfl) ?_
      refine vc_e (e_al (l := [_, _, _, _, _, _]) st rfl rfl zeroValue42 rfl ?_)
      intro b10 w hb10 st
      refine vc_e (e_al (l := [_, _]) st rfl rfl zeroValue29 rfl ?_)
      intro b12 w hb12 st
      refine vc_e (e_sts (vs := [_, _, _, _, _, _]) st 1 rfl rfl rfl rfl rfl sizeOf42 rfl rfl (by (right; assumption)) ?_)
      intro w st; dsimp only [setNth, wr] at st
      refine ya ?_
      refine vc_e (e_sts (vs := [_, _]) st 0 rfl rfl rfl rfl rfl sizeOf29 rfl rfl (by (right; assumption)) ?_)
      intro w st; dsimp only [setNth, wr] at st
      refine vc_end (vq_then (vk3 3 10 11 (vc_seq (vc_region ?_))))
      refine ym ?_
      refine vy (y_eqi rfl rfl) ?_
      refine vmb ?_ ?_
      ·intro hg63
       try simp only [dn] at hg63
       refine yla st 6 [_, _, _, _, _, _] isAgg42 sizeOf42 ?_
       refine yla st 1 [_, _, _, _, _, _] isAgg42 sizeOf42 ?_
       refine vc_e (e_call [_, _] rfl rfl call17 rfl (rsameE_any (S := fun _ => True) e y _ _ _ _ _ ((hre.kept (Same.of_nil st.chg)).mono (fun _ _ => trivial)) (exR_rows (st.res (i := 2) rfl).1) (fun w h1 h2 => rexprsS_any _ e.kids rfl hoe.kids y.kids _ _ _ _ w h1 h2)) ?_)
       rintro _ w ⟨rfl, cw⟩
       replace st := st.call0 cw
       rw [sameE_z hzy]
       refine ypt ?_
       refine ya ?_
       refine vc_end (vq_then (vk1 4 (vc_ret ?_)))
       refine vq_ret1 st (.inl rfl) results4 (.tmp rfl) ?_
       refine ⟨_, rfl, ?_⟩
       refine ⟨?_, st.chg⟩
       rfl
      ·intro hg63
       exact absurd hg63 (by decide)
  ·intro hc21
   try simp only [dn] at hc21
   have hne := pgRes_not hpr (by omega)
   refine vc_seq (vc_region ?_)
   refine ym ?_
   refine vy (y_nes rfl rfl) ?_
   refine vmb ?_ ?_
   ·intro hg38
    exfalso; rw [hne.1] at hg38; simp at hg38
   ·intro hg38
    try simp only [dn] at hg38
    refine ym ?_
    refine vy (y_nei rfl rfl) ?_
    refine vmb ?_ ?_
    ·intro hg41
     try simp only [dn] at hg41
     have h40 : e1 = 4 := by have := hne.2; omega
     refine ym ?_
     refine vy (y_nei rfl rfl) ?_
     refine ypt ?_
     refine ypf ?_
     refine vc_end (vq_then (vk2 3 45 ?_))
     refine vc_ifs rfl ?_ ?_
     ·intro hc45
      exfalso; simp_all
     ·intro hc45
      try simp only [dn] at hc45
      refine vc_code_skip (vq_then (vk1 3 (vc_seq (vc_region ?_))))
      refine yla st 0 [_, _, _, _, _, _] isAgg42 sizeOf42 ?_
      refine vc_e (e_call [_] rfl rfl call15 rfl (exprT_any e hoe _ _ ((exV_row hre).kept (Same.of_nil st.chg) |>.mono (fun b hb => Nat.lt_of_lt_of_le hb st.chg.size)) (hsg.kept st.chg) hle) ?_)
      rintro _ w ⟨rfl, cw⟩
      replace st := st.call0 cw
      obtain ⟨s2, e2, hpe⟩ : ∃ s e1, exprT e = (s, e1) := ⟨_, _, rfl⟩
      rw [hpe]
      refine ym ?_
      iterate 2 refine vy (y_ext rfl rfl) ?_
      iterate 2 refine ya ?_
      refine vc_end (vq_then (vk3 3 5 6 (vc_seq (vc_seq (vc_region ?_)))))
      refine ym ?_
      refine vy (y_nei rfl rfl) ?_
      refine vc_end (vq_then (vk3 3 5 52 ?_))
      refine vc_ifs rfl ?_ ?_
      ·intro hc52
       try simp only [dn] at hc52
       have hne2 := exprT_not hpe (by omega)
       refine vc_seq (vc_region ?_)
       refine ym ?_
       refine vy (y_eqs rfl rfl) ?_
       refine ya ?_
       refine vc_end (vq_then (vk1 4 (vc_ret (vq_then_ret ?_))))
       refine vq_ret1 st (.inl rfl) results4 (.tmp rfl) ?_
       refine ⟨_, rfl, ?_⟩
       refine ⟨?_, st.chg⟩
       (simp [hne2]; done)
      ·intro hc52
       try simp only [dn] at hc52
       have he2 : e2 = 0 := by omega
       subst he2
       obtain ⟨hre2, hle2, rfl⟩ := exprT_zero hpe
       obtain ⟨y, hy, hzy⟩ := expr_printed hre2 hoe hle2
       refine vc_code_skip (vq_then (vk2 3 5 (vc_seq (vc_region ?_))))
       refine ym ?_
       refine vc_e (e_call [_] rfl rfl call16 rfl (Pq.expr_any (txtE e) _ (SigAt.kept hsg st.chg (by simp))) ?_)
       rintro _ w h
       rw [Pq.ExprPost, hy] at h
       dsimp only at h
       obtain ⟨cw, _, ⟨oq, cq, Sq, rfl, hQ2, hN⟩, rfl⟩ := h
       replace st := st.pushR cw (holds_ex hQ2) hN.2
       refine ym ?_
       iterate 3 refine vy (y_ext rfl rfl) ?_
       refine vc_e (e_al (l := [_, _, _, _, _, _]) st rfl rfl zeroValue42 rfl ?_)
       intro b10 w hb10 st
       refine vc_e (e_al (l := [_, _]) st rfl rfl zeroValue29 rfl ?_)
       intro b12 w hb12 st
       refine vc_e (e_sts (vs := [_, _, _, _, _, _]) st 1 rfl rfl rfl rfl rfl sizeOf42 rfl rfl (by (right; assumption)) ?_)
       intro w st; dsimp only [setNth, wr] at st
       refine ya ?_
       refine vc_e (e_sts (vs := [_, _]) st 0 rfl rfl rfl rfl rfl sizeOf29 rfl rfl (by (right; assumption)) ?_)
       intro w st; dsimp only [setNth, wr] at st
       refine vc_end (vq_then (vk3 3 10 11 (vc_seq (vc_region ?_))))
       refine ym ?_
       refine vy (y_eqi rfl rfl) ?_
       refine vmb ?_ ?_
       ·intro hg63
        try simp only [dn] at hg63
        refine yla st 3 [_, _, _, _, _, _] isAgg42 sizeOf42 ?_
        refine yla st 1 [_, _, _, _, _, _] isAgg42 sizeOf42 ?_
        refine vc_e (e_call [_, _] rfl rfl call17 rfl (rsameE_any (S := fun _ => True) e y _ _ _ _ _ ((hre.kept (Same.of_nil st.chg)).mono (fun _ _ => trivial)) (exR_rows (st.res (i := 2) rfl).1) (fun w h1 h2 => rexprsS_any _ e.kids rfl hoe.kids y.kids _ _ _ _ w h1 h2)) ?_)
        rintro _ w ⟨rfl, cw⟩
        replace st := st.call0 cw
        rw [sameE_z hzy]
        refine ypt ?_
        refine ya ?_
        refine vc_end (vq_then (vk1 4 (vc_ret ?_)))
        refine vq_ret1 st (.inl rfl) results4 (.tmp rfl) ?_
        refine ⟨_, rfl, ?_⟩
        refine ⟨?_, st.chg⟩
        rfl
       ·intro hg63
        exact absurd hg63 (by decide)
    ·intro hg41
     try simp only [dn] at hg41
     have h40 : e1 = 40 := by omega
     iterate 2 refine vsk ?_
     iterate 2 refine ypf ?_
     refine vc_end (vq_then (vk2 3 45 ?_))
     refine vc_iff rfl ?_
     refine vc_code_skip (vq_then (vk1 3 (vc_seq (vc_region ?_))))
     refine yla st 0 [_, _, _, _, _, _] isAgg42 sizeOf42 ?_
     refine vc_e (e_call [_] rfl rfl call15 rfl (exprT_any e hoe _ _ ((exV_row hre).kept (Same.of_nil st.chg) |>.mono (fun b hb => Nat.lt_of_lt_of_le hb st.chg.size)) (hsg.kept st.chg) hle) ?_)
     rintro _ w ⟨rfl, cw⟩
     replace st := st.call0 cw
     obtain ⟨s2, e2, hpe⟩ : ∃ s e1, exprT e = (s, e1) := ⟨_, _, rfl⟩
     rw [hpe]
     refine ym ?_
     iterate 2 refine vy (y_ext rfl rfl) ?_
     iterate 2 refine ya ?_
     refine vc_end (vq_then (vk3 3 5 6 (vc_seq (vc_seq (vc_region ?_)))))
     refine ym ?_
     refine vy (y_nei rfl rfl) ?_
     refine vc_end (vq_then (vk3 3 5 52 ?_))
     refine vc_ifs rfl ?_ ?_
     ·intro hc52
      try simp only [dn] at hc52
      have hne2 := exprT_not hpe (by omega)
      refine vc_seq (vc_region ?_)
      refine ym ?_
      refine vy (y_eqs rfl rfl) ?_
      refine ya ?_
      refine vc_end (vq_then (vk1 4 (vc_ret (vq_then_ret ?_))))
      refine vq_ret1 st (.inl rfl) results4 (.tmp rfl) ?_
      refine ⟨_, rfl, ?_⟩
      refine ⟨?_, st.chg⟩
      (simp [hne2]; done)
     ·intro hc52
      try simp only [dn] at hc52
      have he2 : e2 = 0 := by omega
      subst he2
      obtain ⟨hre2, hle2, rfl⟩ := exprT_zero hpe
      obtain ⟨y, hy, hzy⟩ := expr_printed hre2 hoe hle2
      refine vc_code_skip (vq_then (vk2 3 5 (vc_seq (vc_region ?_))))
      refine ym ?_
      refine vc_e (e_call [_] rfl rfl call16 rfl (Pq.expr_any (txtE e) _ (SigAt.kept hsg st.chg (by simp))) ?_)
      rintro _ w h
      rw [Pq.ExprPost, hy] at h
      dsimp only at h
      obtain ⟨cw, _, ⟨oq, cq, Sq, rfl, hQ2, hN⟩, rfl⟩ := h
      replace st := st.pushR cw (holds_ex hQ2) hN.2
      refine ym ?_
      iterate 3 refine vy (y_ext rfl rfl) ?_
      refine vc_e (e_al (l := [_, _, _, _, _, _]) st rfl rfl zeroValue42 rfl ?_)
      intro b10 w hb10 st
      refine vc_e (e_al (l := [_, _]) st rfl rfl zeroValue29 rfl ?_)
      intro b12 w hb12 st
      refine vc_e (e_sts (vs := [_, _, _, _, _, _]) st 1 rfl rfl rfl rfl rfl sizeOf42 rfl rfl (by (right; assumption)) ?_)
      intro w st; dsimp only [setNth, wr] at st
      refine ya ?_
      refine vc_e (e_sts (vs := [_, _]) st 0 rfl rfl rfl rfl rfl sizeOf29 rfl rfl (by (right; assumption)) ?_)
      intro w st; dsimp only [setNth, wr] at st
      refine vc_end (vq_then (vk3 3 10 11 (vc_seq (vc_region ?_))))
      refine ym ?_
      refine vy (y_eqi rfl rfl) ?_
      refine vmb ?_ ?_
      ·intro hg63
       try simp only [dn] at hg63
       refine yla st 3 [_, _, _, _, _, _] isAgg42 sizeOf42 ?_
       refine yla st 1 [_, _, _, _, _, _] isAgg42 sizeOf42 ?_
       refine vc_e (e_call [_, _] rfl rfl call17 rfl (rsameE_any (S := fun _ => True) e y _ _ _ _ _ ((hre.kept (Same.of_nil st.chg)).mono (fun _ _ => trivial)) (exR_rows (st.res (i := 2) rfl).1) (fun w h1 h2 => rexprsS_any _ e.kids rfl hoe.kids y.kids _ _ _ _ w h1 h2)) ?_)
       rintro _ w ⟨rfl, cw⟩
       replace st := st.call0 cw
       rw [sameE_z hzy]
       refine ypt ?_
       refine ya ?_
       refine vc_end (vq_then (vk1 4 (vc_ret ?_)))
       refine vq_ret1 st (.inl rfl) results4 (.tmp rfl) ?_
       refine ⟨_, rfl, ?_⟩
       refine ⟨?_, st.chg⟩
       rfl
      ·intro hg63
       exact absurd hg63 (by decide)

end Go.Proofs.YtnmhlpnapgojjaaGreatDoor

