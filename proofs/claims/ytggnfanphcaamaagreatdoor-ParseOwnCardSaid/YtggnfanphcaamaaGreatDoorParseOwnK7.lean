/- A part of the proof: contracts of functions and plain laws; each theorem says its own conditions. -/
import Derived.Test.YtggnfanphcaamaaGreatDoorParseOwnK1
import Derived.Test.YtggnfanphcaamaaGreatDoorParseOwnK6
import Derived.Test.YtggnfanphcaamaaGreatDoorParseOwnK0
import Derived.Test.YtggnfanphcaamaaGreatDoorParseOwnK2
set_option linter.unusedVariables false
set_option linter.unusedSimpArgs false
namespace Go.Proofs.YtggnfanphcaamaaGreatDoor
open Go.RowKit Sx LexS ParS _root_.Go.Proofs.Tryz
/-- readers of statements, of rows of them, of blocks, along so many tokens -/
def SMR (c : RCtx) (n : Nat) : Prop := ∀ (m d : Nat), d + m = 64 → ∀ (σ : RS), σ.r <:+ c.ts → σ.ok → σ.r.length ≤ n → ∀ (w : World), RCok c w → RAt c σ w → Ret Tryz.prog 64 [.pointer (some ⟨c.rb, 0, none⟩), .int .i64 (d : Int)] w (RRes c σ (stmtP c.e m) w (HS w))
def SSR (c : RCtx) (n : Nat) : Prop := ∀ (m d : Nat), d ≤ 65 → ∀ (σ : RS), σ.r <:+ c.ts → (σ.ok → d + m = 64 ∧ σ.r.length ≤ n) → ∀ (w : World), RCok c w → RAt c σ w → Ret Tryz.prog 53 [.pointer (some ⟨c.rb, 0, none⟩), .int .i64 (d : Int)] w (RRes c σ (restP c.e m) w (HB w))
def BKR (c : RCtx) (n : Nat) : Prop := ∀ (m d : Nat), d + m = 64 → ∀ (σ : RS), σ.r <:+ c.ts → (σ.ok → σ.r.length ≤ n) → ∀ (w : World), RCok c w → RAt c σ w → Ret Tryz.prog 81 [.pointer (some ⟨c.rb, 0, none⟩), .int .i64 (d : Int)] w (RRes c σ (blkP c.e m) w (HB w))
/-- how long a reader has still to go -/
def RS.mu (σ : RS) : Nat := if σ.ok then σ.r.length + 1 else 0

set_option maxHeartbeats 1000000 in
theorem rstmts_of (c : RCtx) (n : Nat) (hS : SMR c n) : SSR c n := by
 intro m d hd σ hr hn w hC hP
 refine ret_of [_, _] func53 rfl ntmps53 rfl ?_
 obtain ⟨w0, rfl⟩ : ∃ w0, w0 = w := ⟨_, rfl⟩
 have hP' := hP
 dsimp only [RAt, rcell] at hP
 have st := St.of1 [c.rb] hP
 have h20 := hC.len
 have hl := suf_len hr
 replace st := St.pushR (r := .tree [] (fun w => SmSs 60 56 w [] [] [])) st (Chg.refl _ _) (holds_smss (by simp [SmSs])) (by simp [Res.at?])
 replace st := st.ownNil 56 7
 refine sr ?_
 refine ya ?_
 refine et (vk2 0 1 (sr ?_))
 refine ya ?_
 refine et (vk3 0 1 5 (vc_seq (vc_block ?_)))
 refine vc_loop (w0 := w0) (M := [c.rb]) (fun (y : (List Sm × RS × Nat × Option Addr × Nat × List Value × List Nat)) => [(0, .pointer (some ⟨c.rb, 0, none⟩)), (1, .int .i64 (d : Int)), (5, .slice y.2.2.2.1 y.1.length y.2.2.2.2.1)]) (fun (y : (List Sm × RS × Nat × Option Addr × Nat × List Value × List Nat)) => [.own (.slice y.2.2.2.1 y.1.length y.2.2.2.2.1) 56 7 y.1.length y.2.2.2.2.2.1, .tree y.2.2.2.2.2.2 (fun w => SmSs 60 56 w y.1 y.2.2.2.2.2.1 y.2.2.2.2.2.2), .blk c.rb (.cells (rcell c y.2.1).toArray c.T (0, 0))]) (fun (y : (List Sm × RS × Nat × Option Addr × Nat × List Value × List Nat)) _ => y.2.1.r <:+ σ.r ∧ (y.2.1.ok → σ.ok ∧ y.1.length + y.2.1.r.length ≤ σ.r.length ∧ y.2.1.r.length < y.2.2.1) ∧ Nw w0.heap.size y.2.2.2.2.2.2 ∧ run (restP c.e m) σ = addL y.1 (run (restW (stmtP c.e m) y.2.2.1) y.2.1)) (fun (y : (List Sm × RS × Nat × Option Addr × Nat × List Value × List Nat)) => RS.mu y.2.1) ([], σ, σ.r.length + 1, none, 0, [], []) ⟨rfl, rfl, rfl, trivial⟩ st ⟨List.suffix_refl _, fun ho => ⟨ho, by simp, by simp⟩, Nw.nil, (addL_nil _).symm⟩ ?_
 clear st
 rintro ⟨acc, σ1, k, oq, cq, xs, Sq⟩ w ⟨hsf1, hl1, hSq, hG⟩ st
 dsimp only at hsf1 hl1 hSq hG st
 have hr1 := hsf1.trans hr
 have h40 := suf_len hr1
 refine vc_seq (sr ?_)
 refine ym ?_
 refine vc_e (e_call [_] rfl rfl call16 rfl (rok_any c σ1 hr1 _ (hC.k1 st.chg) (by exact st.res (i := 2) rfl)) ?_)
 rintro _ w ⟨rfl, cw⟩
 replace st := st.call0 cw
 refine vmb ?_ ?_
 ·intro hg8
  have ho : σ1.ok := by simpa using hg8
  obtain ⟨ho0, hl2, hk1⟩ := hl1 ho
  obtain ⟨hdm, hn0⟩ := hn ho0
  obtain ⟨k, rfl⟩ : ∃ j, k = j + 1 := ⟨k - 1, by omega⟩
  refine ym ?_
  refine vc_e (e_call [_, _] rfl rfl call31 rfl (rtake_any c [125] σ1 hr1 _ (hC.k1 st.chg) (by exact st.res (i := 2) rfl)) ?_)
  rintro _ w ⟨rfl, hP1, cw⟩
  replace st := St.prs (b := c.rb) st 2 rfl cw (.inl (.head _)) hP1
  refine vy (y_not rfl) ?_
  refine ypt ?_
  refine et (vk4 0 1 5 12 ?_)
  refine vif ?_ ?_
  ·intro hc12
   have hF : takeB [125] σ1 = false := by simpa using hc12
   rw [takeR_neg hF] at st
   refine kt (vk3 0 1 5 (vc_block (vc_region ?_)))
   iterate 3 refine ym ?_
   refine vc_e (e_call [_, _] rfl rfl call64 rfl (hS m d hdm σ1 hr1 ho (by omega) _ (hC.k1 st.chg) (by exact st.res (i := 2) rfl)) ?_)
   rintro _ w ⟨s, σ2, hD, hsf, hP1, cw, oe, ob, ol, ce, cb, cl, Ss, rfl, hQ, hN⟩
   have hNSs := hN.le st.chg.size
   replace st := St.prsT (b := c.rb) st 2 rfl cw (.inl (.head _)) hP1 (holds_sms hQ) hN.2
   have hlt2 : σ2.ok → σ2.r.length < σ1.r.length := fun h => stmt_len m _ _ _ (hD.ok_inv h).2
   refine vc_e (e_bs1 (l := [_, _, _, _, _, _, _]) st rfl rfl rfl rfl underlying48 sizeOf56 rfl rfl rfl zeroValue56 ?_)
   intro b17 w hb17 st
   refine vc_e (e_app (bytes := 120) st 2 0 rfl rfl rfl rfl rfl rfl underlying48 Tryz.info56 rfl rfl rfl rfl rfl (by simp) rfl rfl (by unfold maxLen; omega) (by omega) ?_)
   intro oaQ capQ w st
   have hS2 := SmSs.snoc (st.res (i := 3) rfl).1 (st.res (i := 1) rfl).1
   have hN2 := hSq.app hNSs (st.ne (i := 3) (j := 1) (by decide) rfl rfl)
   replace st := ((st.pick [3, 1, 2, 4] rfl (by decide)).join (q := .tree (Sq ++ Ss) fun w => SmSs 60 56 w (acc ++ [s]) (xs ++ smC s oe ob ol ce cb cl) (Sq ++ Ss)) (fun k hk => List.mem_append.1 hk) (holds_smss hS2)).pick [1, 0, 2] rfl (by decide)
   refine ya ?_
   refine vc_end (vq_block ?_)
   refine vq_again (acc ++ [s], σ2, k, oaQ, capQ, xs ++ smC s oe ob ol ce cb cl, Sq ++ Ss)  (by refine ⟨rfl, rfl, ?_, trivial⟩; simp [find, put]) (by simpa using st) ?_ ?_
   ·exact ⟨hsf.trans hsf1, fun h2 => ⟨ho0, by simp; have := hlt2 h2; omega, by have := hlt2 h2; dsimp only; omega⟩, hN2, hG.trans (rest_step ho hF hD)⟩
   ·unfold RS.mu; dsimp only; rw [if_pos ho]; split
    ·have := hlt2 (by assumption); omega
    ·omega
  intro hc12
  have hT : takeB [125] σ1 = true := by simpa using hc12
  rw [takeR_pos hT] at st
  refine vc_exit (vq_then_exit (vq_then_exit (vq_block_exit (vq_then (vk1 5 (sr ?_))))))
  refine ym ?_
  refine ya ?_
  refine et (vk1 4 (vc_ret ?_))
  refine vq_ret1 st (.inl rfl) results53 (.tmp rfl) ?_
  refine ⟨_, rfl, ?_⟩
  have hown := st.ownNw (i := 0) rfl
  exact ⟨acc, ⟨σ1.r.tail, σ1.f⟩, by rw [hG]; exact (rest_end hT).add_nil, (List.tail_suffix _).trans hsf1, (by exact st.res (i := 2) rfl), st.chg, oq, cq, obk oq ++ Sq, rfl, ⟨xs, Sq, hown.1, rfl, (st.res (i := 1) rfl).1⟩, hown.2.app hSq (fun b hb => st.ne (i := 0) (j := 1) (by decide) rfl rfl b (by simpa [Res.at?, obk_own] using hb))⟩
 intro hg8
 have ho : ¬ σ1.ok := by simpa using hg8
 iterate 3 refine vsk ?_
 refine ypf ?_
 refine et (vk4 0 1 5 12 ?_)
 refine vc_iff rfl ?_
 refine vc_exit (vq_then_exit (vq_then_exit (vq_block_exit (vq_then (vk1 5 (sr ?_))))))
 refine ym ?_
 refine ya ?_
 refine et (vk1 4 (vc_ret ?_))
 refine vq_ret1 st (.inl rfl) results53 (.tmp rfl) ?_
 refine ⟨_, rfl, ?_⟩
 have hown := st.ownNw (i := 0) rfl
 exact ⟨acc, σ1, by rw [hG, run_bad ho]; exact ⟨rfl, ho⟩, hsf1, (by exact st.res (i := 2) rfl), st.chg, oq, cq, obk oq ++ Sq, rfl, ⟨xs, Sq, hown.1, rfl, (st.res (i := 1) rfl).1⟩, hown.2.app hSq (fun b hb => st.ne (i := 0) (j := 1) (by decide) rfl rfl b (by simpa [Res.at?, obk_own] using hb))⟩
theorem rblock_of (c : RCtx) (n : Nat) (hS : SSR c n) : BKR c n := by
 intro m d hd σ hr hn w hC hP
 refine ret_of [_, _] func81 rfl ntmps81 rfl ?_
 obtain ⟨w0, rfl⟩ : ∃ w0, w0 = w := ⟨_, rfl⟩
 have hP' := hP
 dsimp only [RAt, rcell] at hP
 have st := St.of1 [c.rb] hP
 have h20 := hC.len
 have hl := suf_len hr
 refine sr ?_
 refine ya ?_
 refine et (vk2 0 1 (vc_seq (sr ?_)))
 refine ym ?_
 refine vc_e (e_call [_] rfl rfl call16 rfl (rok_any c σ hr _ (hC.k1 st.chg) (by exact st.res (i := 0) rfl)) ?_)
 rintro _ w ⟨rfl, cw⟩
 replace st := st.call0 cw
 refine vmb ?_ ?_
 ·intro hg7
  try simp only [dn] at hg7
  have ho : σ.ok := by simpa using hg7
  refine ym ?_
  refine vc_e (e_call [_, _] rfl rfl call48 rfl (ris_any c [123] σ hr _ (hC.k1 st.chg) (by exact st.res (i := 0) rfl)) ?_)
  rintro _ w ⟨rfl, cw⟩
  replace st := st.call0 cw
  refine ypt ?_
  refine vmb ?_ ?_
  ·intro hg11
   try simp only [dn] at hg11
   refine ym ?_
   refine vy (y_geq rfl rfl) ?_
   refine ypt ?_
   refine et (vk3 0 1 14 ?_)
   refine vif ?_ ?_
   ·intro hc14
    try simp only [dn] at hc14
    have hT : takeB [123] σ = true := by rw [takeB_ok ho]; simp_all
    obtain rfl : m = 0 := by omega
    refine vc_region ?_
    refine ym ?_
    refine vc_e (e_call [_, _] rfl rfl call51 rfl (rfail_any c 3 σ hr _ (hC.k1 st.chg) (by exact st.res (i := 0) rfl)) ?_)
    rintro _ w ⟨rfl, hP1, cw⟩
    replace st := St.prs (b := c.rb) st 0 rfl cw (.inl (.head _)) hP1
    dsimp only [setNth] at st
    refine et (vk2 0 1 (sr ?_))
    refine ym ?_
    refine vc_e (e_call [_, _] rfl rfl call52 rfl (rwant_any c [123] (failR c.e 3 σ) (by rw [failR_r]; exact hr) _ (hC.k1 st.chg) (by exact st.res (i := 0) rfl)) ?_)
    rintro _ w ⟨rfl, hP1, cw⟩
    replace st := St.prs (b := c.rb) st 0 rfl cw (.inl (.head _)) hP1
    dsimp only [setNth] at st
    refine et (vk2 0 1 (sr ?_))
    iterate 2 refine ym ?_
    refine vy (y_add rfl rfl (by omega : _ = ((d + 1 : Nat) : Int)) (by omega) (by omega)) ?_
    refine vc_e (e_call [_, _] rfl rfl call53 rfl (hS 0 (d + 1) (by omega) (wantR c.e [123] (failR c.e 3 σ)) (wantR_suf.trans (by (rw [failR_r]; exact hr))) (fun h => absurd h (by rw [wantR_bad (failR_not (by decide))]; exact failR_not (by decide))) _ (hC.k1 st.chg) (by exact st.res (i := 0) rfl)) ?_)
    rintro _ w ⟨l, σ2, hD, hsf, hP1, cw, ob, cb, Sb, rfl, hQ, hN⟩
    have hNSb := hN.le st.chg.size
    replace st := St.prsT (b := c.rb) st 0 rfl cw (.inl (.head _)) hP1 (holds_sm hQ) hN.2
    dsimp only [setNth] at st
    have hbad := failR_not (e := c.e) (k := 3) (σ := σ) (by decide)
    rw [wantR_bad hbad] at hD hsf
    rw [run_bad hbad] at hD
    rw [failR_r] at hsf
    refine ya ?_
    refine et (vk1 4 (vc_ret ?_))
    refine vq_ret1 st (.inl rfl) results81 (.tmp rfl) ?_
    refine ⟨_, rfl, ?_⟩
    exact ⟨l, σ2, block_deep hT hD.1, hsf, (by exact st.res (i := 1) rfl), st.chg, ob, cb, Sb, rfl, (by exact (st.res (i := 0) rfl).1), hNSb⟩
   intro hc14
   try simp only [dn] at hc14
   have hm : ¬ (takeB [123] σ = true ∧ m = 0) := fun h => by omega
   have hHN : ∀ (hm : ¬ (takeB [123] σ = true ∧ m = 0)), (wantR c.e [123] σ).ok → (d + 1) + (m - 1) = 64 ∧ (wantR c.e [123] σ).r.length ≤ n := fun hm h => by
    by_cases ht : takeB [123] σ = true
    ·have h1 := hn (takeB_pos ht).1
     unfold wantR; rw [if_pos ht]
     have h2 : ¬ m = 0 := fun h0 => hm ⟨ht, h0⟩
     refine ⟨by omega, ?_⟩
     simp only [List.length_tail]; omega
    ·unfold wantR at h; rw [if_neg ht] at h; exact absurd h (failR_not (by decide))
   refine kt (vk2 0 1 (sr ?_))
   refine ym ?_
   refine vc_e (e_call [_, _] rfl rfl call52 rfl (rwant_any c [123] σ hr _ (hC.k1 st.chg) (by exact st.res (i := 0) rfl)) ?_)
   rintro _ w ⟨rfl, hP1, cw⟩
   replace st := St.prs (b := c.rb) st 0 rfl cw (.inl (.head _)) hP1
   dsimp only [setNth] at st
   refine et (vk2 0 1 (sr ?_))
   iterate 2 refine ym ?_
   refine vy (y_add rfl rfl (by omega : _ = ((d + 1 : Nat) : Int)) (by omega) (by omega)) ?_
   refine vc_e (e_call [_, _] rfl rfl call53 rfl (hS (m - 1) (d + 1) (by omega) (wantR c.e [123] σ) (wantR_suf.trans (by exact hr)) (hHN hm) _ (hC.k1 st.chg) (by exact st.res (i := 0) rfl)) ?_)
   rintro _ w ⟨l, σ2, hD, hsf, hP1, cw, ob, cb, Sb, rfl, hQ, hN⟩
   have hNSb := hN.le st.chg.size
   replace st := St.prsT (b := c.rb) st 0 rfl cw (.inl (.head _)) hP1 (holds_sm hQ) hN.2
   dsimp only [setNth] at st
   refine ya ?_
   refine et (vk1 4 (vc_ret ?_))
   refine vq_ret1 st (.inl rfl) results81 (.tmp rfl) ?_
   refine ⟨_, rfl, ?_⟩
   exact ⟨l, σ2, block_done hm (hD.congr (fun r => rfl)), hsf.trans wantR_suf, (by exact st.res (i := 1) rfl), st.chg, ob, cb, Sb, rfl, (by exact (st.res (i := 0) rfl).1), hNSb⟩
  intro hg11
  try simp only [dn] at hg11
  have hm : ¬ (takeB [123] σ = true ∧ m = 0) := by rw [takeB_ok ho]; simp_all
  have hHN : ∀ (hm : ¬ (takeB [123] σ = true ∧ m = 0)), (wantR c.e [123] σ).ok → (d + 1) + (m - 1) = 64 ∧ (wantR c.e [123] σ).r.length ≤ n := fun hm h => by
   by_cases ht : takeB [123] σ = true
   ·have h1 := hn (takeB_pos ht).1
    unfold wantR; rw [if_pos ht]
    have h2 : ¬ m = 0 := fun h0 => hm ⟨ht, h0⟩
    refine ⟨by omega, ?_⟩
    simp only [List.length_tail]; omega
   ·unfold wantR at h; rw [if_neg ht] at h; exact absurd h (failR_not (by decide))
  iterate 2 refine vsk ?_
  refine ypf ?_
  refine et (vk3 0 1 14 ?_)
  refine vc_iff rfl ?_
  refine kt (vk2 0 1 (sr ?_))
  refine ym ?_
  refine vc_e (e_call [_, _] rfl rfl call52 rfl (rwant_any c [123] σ hr _ (hC.k1 st.chg) (by exact st.res (i := 0) rfl)) ?_)
  rintro _ w ⟨rfl, hP1, cw⟩
  replace st := St.prs (b := c.rb) st 0 rfl cw (.inl (.head _)) hP1
  dsimp only [setNth] at st
  refine et (vk2 0 1 (sr ?_))
  iterate 2 refine ym ?_
  refine vy (y_add rfl rfl (by omega : _ = ((d + 1 : Nat) : Int)) (by omega) (by omega)) ?_
  refine vc_e (e_call [_, _] rfl rfl call53 rfl (hS (m - 1) (d + 1) (by omega) (wantR c.e [123] σ) (wantR_suf.trans (by exact hr)) (hHN hm) _ (hC.k1 st.chg) (by exact st.res (i := 0) rfl)) ?_)
  rintro _ w ⟨l, σ2, hD, hsf, hP1, cw, ob, cb, Sb, rfl, hQ, hN⟩
  have hNSb := hN.le st.chg.size
  replace st := St.prsT (b := c.rb) st 0 rfl cw (.inl (.head _)) hP1 (holds_sm hQ) hN.2
  dsimp only [setNth] at st
  refine ya ?_
  refine et (vk1 4 (vc_ret ?_))
  refine vq_ret1 st (.inl rfl) results81 (.tmp rfl) ?_
  refine ⟨_, rfl, ?_⟩
  exact ⟨l, σ2, block_done hm (hD.congr (fun r => rfl)), hsf.trans wantR_suf, (by exact st.res (i := 1) rfl), st.chg, ob, cb, Sb, rfl, (by exact (st.res (i := 0) rfl).1), hNSb⟩
 intro hg7
 try simp only [dn] at hg7
 have ho : ¬ σ.ok := by simpa using hg7
 have hm : ¬ (takeB [123] σ = true ∧ m = 0) := by rw [takeB_bad ho]; simp
 have hHN : ∀ (hm : ¬ (takeB [123] σ = true ∧ m = 0)), (wantR c.e [123] σ).ok → (d + 1) + (m - 1) = 64 ∧ (wantR c.e [123] σ).r.length ≤ n := fun hm h => by
  by_cases ht : takeB [123] σ = true
  ·have h1 := hn (takeB_pos ht).1
   unfold wantR; rw [if_pos ht]
   have h2 : ¬ m = 0 := fun h0 => hm ⟨ht, h0⟩
   refine ⟨by omega, ?_⟩
   simp only [List.length_tail]; omega
  ·unfold wantR at h; rw [if_neg ht] at h; exact absurd h (failR_not (by decide))
 iterate 2 refine vsk ?_
 refine ypf ?_
 refine ym ?_
 iterate 2 refine vsk ?_
 refine ypf ?_
 refine et (vk3 0 1 14 ?_)
 refine vc_iff rfl ?_
 refine kt (vk2 0 1 (sr ?_))
 refine ym ?_
 refine vc_e (e_call [_, _] rfl rfl call52 rfl (rwant_any c [123] σ hr _ (hC.k1 st.chg) (by exact st.res (i := 0) rfl)) ?_)
 rintro _ w ⟨rfl, hP1, cw⟩
 replace st := St.prs (b := c.rb) st 0 rfl cw (.inl (.head _)) hP1
 dsimp only [setNth] at st
 refine et (vk2 0 1 (sr ?_))
 iterate 2 refine ym ?_
 refine vy (y_add rfl rfl (by omega : _ = ((d + 1 : Nat) : Int)) (by omega) (by omega)) ?_
 refine vc_e (e_call [_, _] rfl rfl call53 rfl (hS (m - 1) (d + 1) (by omega) (wantR c.e [123] σ) (wantR_suf.trans (by exact hr)) (hHN hm) _ (hC.k1 st.chg) (by exact st.res (i := 0) rfl)) ?_)
 rintro _ w ⟨l, σ2, hD, hsf, hP1, cw, ob, cb, Sb, rfl, hQ, hN⟩
 have hNSb := hN.le st.chg.size
 replace st := St.prsT (b := c.rb) st 0 rfl cw (.inl (.head _)) hP1 (holds_sm hQ) hN.2
 dsimp only [setNth] at st
 refine ya ?_
 refine et (vk1 4 (vc_ret ?_))
 refine vq_ret1 st (.inl rfl) results81 (.tmp rfl) ?_
 refine ⟨_, rfl, ?_⟩
 exact ⟨l, σ2, block_done hm (hD.congr (fun r => rfl)), hsf.trans wantR_suf, (by exact st.res (i := 1) rfl), st.chg, ob, cb, Sb, rfl, (by exact (st.res (i := 0) rfl).1), hNSb⟩
end Go.Proofs.YtggnfanphcaamaaGreatDoor


namespace Go.Proofs.YtggnfanphcaamaaGreatDoor
open Go.RowKit Sx LexS ParS _root_.Go.Proofs.Tryz

set_option maxHeartbeats 1000000 in
theorem rassign_any (a : Nat) (c : RCtx) (σ : RS) (hr : σ.r <:+ c.ts) (w : World) (hC : RCok c w) (hP : RAt c σ w) : Ret Tryz.prog 83 [.pointer (some ⟨c.rb, 0, none⟩), .agg (sm00 (a : Int)).toArray] w (RRes c σ (assignP c.e a) w (HS w)) := by
 refine ret_of [_, _] func83 rfl ntmps83 rfl ?_
 obtain ⟨w0, rfl⟩ : ∃ w0, w0 = w := ⟨_, rfl⟩
 have hP' := hP
 dsimp only [RAt, rcell] at hP
 have st := St.of1 [c.rb] hP
 have h20 := hC.len
 have hl := suf_len hr
 have hrσ := hr
 refine sr ?_
 refine vc_e (e_bx (l := [_, _, _, _, _, _, _]) st rfl rfl rfl rfl ?_)
 intro b3 w hb3 st
 refine vc_e (e_al (l := [_, _, _, _, _, _, _]) st rfl rfl zeroValue56 rfl ?_)
 intro b4 w hb4 st
 refine et (vk3 0 3 4 (sr ?_))
 refine ym ?_
 refine vc_e (e_call [_] rfl rfl call49 rfl (rname_any c σ hrσ _ (hC.k1 st.chg) (by exact st.res (i := 2) rfl)) ?_)
 rintro _ w ⟨rfl, hP1, cw⟩
 replace st := St.prs (b := c.rb) st 2 rfl cw (.inl (.head _)) hP1
 obtain ⟨σ1, hσ1⟩ : ∃ x, nameR c.e σ = x := ⟨_, rfl⟩
 rw [hσ1] at st
 have hsfσ1 : σ1.r <:+ σ.r := by rw [← hσ1]; exact nameR_suf
 have hrσ1 := hsfσ1.trans hrσ
 have hlσ1 := suf_len hsfσ1
 refine ym ?_
 iterate 2 refine vy (y_ext rfl rfl) ?_
 iterate 2 refine ya ?_
 refine et (vk4 0 3 4 5 (sr ?_))
 refine ym ?_
 refine yfz 1 underlying56 sizeOf9 ?_
 refine vc_e (e_st st 1 rfl rfl rfl rfl sizeOf9 rfl rfl (by (right; assumption)) ?_)
 intro w st
 refine et (vk3 0 3 4 (sr ?_))
 refine ym ?_
 refine vc_e (e_call [_, _] rfl rfl call52 rfl (rwant_any c [61] σ1 hrσ1 _ (hC.k1 st.chg) (by exact st.res (i := 2) rfl)) ?_)
 rintro _ w ⟨rfl, hP1, cw⟩
 replace st := St.prs (b := c.rb) st 2 rfl cw (.inl (.head _)) hP1
 obtain ⟨σ2, hσ2⟩ : ∃ x, wantR c.e [61] σ1 = x := ⟨_, rfl⟩
 rw [hσ2] at st
 have hsfσ2 : σ2.r <:+ σ1.r := by rw [← hσ2]; exact wantR_suf
 have hrσ2 := hsfσ2.trans hrσ1
 refine et (vk3 0 3 4 (vc_seq (sr ?_)))
 refine ym ?_
 refine vc_e (e_call [_, _] rfl rfl call31 rfl (rtake_any c wSwap σ2 hrσ2 _ (hC.k1 st.chg) (by exact st.res (i := 2) rfl)) ?_)
 rintro _ w ⟨rfl, hP1, cw⟩
 replace st := St.prs (b := c.rb) st 2 rfl cw (.inl (.head _)) hP1
 refine et (vk4 0 3 4 19 ?_)
 refine vif ?_ ?_
 ·intro hc19
  have hT : takeB wSwap σ2 = true := hc19
  rw [takeR_pos hT] at st
  obtain ⟨σ3, hσ3⟩ : ∃ x, (RS.mk σ2.r.tail σ2.f) = x := ⟨_, rfl⟩
  rw [hσ3] at st
  have hsfσ3 : σ3.r <:+ σ2.r := by rw [← hσ3]; exact List.tail_suffix _
  have hrσ3 := hsfσ3.trans hrσ2
  refine sr ?_
  refine vy (y_fa0 rfl underlying56 rfl rfl sizeOf53 rfl) ?_
  refine vc_e (e_st st 1 rfl rfl rfl rfl sizeOf53 rfl rfl (by (right; assumption)) ?_)
  intro w st
  refine et (vk3 0 3 4 (sr ?_))
  refine ym ?_
  refine vc_e (e_call [_, _] rfl rfl call52 rfl (rwant_any c [40] σ3 hrσ3 _ (hC.k1 st.chg) (by exact st.res (i := 2) rfl)) ?_)
  rintro _ w ⟨rfl, hP1, cw⟩
  replace st := St.prs (b := c.rb) st 2 rfl cw (.inl (.head _)) hP1
  obtain ⟨σ4, hσ4⟩ : ∃ x, wantR c.e [40] σ3 = x := ⟨_, rfl⟩
  rw [hσ4] at st
  have hsfσ4 : σ4.r <:+ σ3.r := by rw [← hσ4]; exact wantR_suf
  have hrσ4 := hsfσ4.trans hrσ3
  refine et (vk3 0 3 4 (sr ?_))
  refine ym ?_
  refine vc_e (e_call [_] rfl rfl call49 rfl (rname_any c σ4 hrσ4 _ (hC.k1 st.chg) (by exact st.res (i := 2) rfl)) ?_)
  rintro _ w ⟨rfl, hP1, cw⟩
  replace st := St.prs (b := c.rb) st 2 rfl cw (.inl (.head _)) hP1
  obtain ⟨σ5, hσ5⟩ : ∃ x, nameR c.e σ4 = x := ⟨_, rfl⟩
  rw [hσ5] at st
  have hsfσ5 : σ5.r <:+ σ4.r := by rw [← hσ5]; exact nameR_suf
  have hrσ5 := hsfσ5.trans hrσ4
  have hlσ5 := suf_len hsfσ5
  refine ym ?_
  iterate 2 refine vy (y_ext rfl rfl) ?_
  iterate 2 refine ya ?_
  refine et (vk4 0 3 4 7 (sr ?_))
  refine ym ?_
  refine yfz 2 underlying56 sizeOf9 ?_
  refine vc_e (e_st st 1 rfl rfl rfl rfl sizeOf9 rfl rfl (by (right; assumption)) ?_)
  intro w st
  refine et (vk3 0 3 4 (sr ?_))
  refine ym ?_
  refine vc_e (e_call [_, _] rfl rfl call52 rfl (rwant_any c [44] σ5 hrσ5 _ (hC.k1 st.chg) (by exact st.res (i := 2) rfl)) ?_)
  rintro _ w ⟨rfl, hP1, cw⟩
  replace st := St.prs (b := c.rb) st 2 rfl cw (.inl (.head _)) hP1
  obtain ⟨σ6, hσ6⟩ : ∃ x, wantR c.e [44] σ5 = x := ⟨_, rfl⟩
  rw [hσ6] at st
  have hsfσ6 : σ6.r <:+ σ5.r := by rw [← hσ6]; exact wantR_suf
  have hrσ6 := hsfσ6.trans hrσ5
  refine et (vk3 0 3 4 (sr ?_))
  refine ym ?_
  refine vc_e (e_call [_, _, _] rfl rfl call82 rfl (rexpr_any c σ6 hrσ6 _ (hC.k1 st.chg) (by exact st.res (i := 2) rfl)) ?_)
  rintro _ w ⟨x, σ7, hDσ7, hsfσ7, hP1, cw, ox, cx, Sx, rfl, hQ, hN⟩
  have hNSx := hN.le st.chg.size
  replace st := St.prsT (b := c.rb) st 2 rfl cw (.inl (.head _)) hP1 (holds_ex hQ) hN.2
  have hrσ7 := hsfσ7.trans hrσ6
  refine vc_e (e_bs1 (l := [_, _, _, _, _, _]) st rfl rfl rfl rfl underlying54 sizeOf60 rfl rfl rfl zeroValue60 ?_)
  intro b34 w hb34 st
  refine yfz 3 underlying56 sizeOf54 ?_
  refine vc_e (e_st st 3 rfl rfl rfl rfl sizeOf54 rfl rfl (by (right; assumption)) ?_)
  intro w st
  refine et (vk3 0 3 4 (vc_region ?_))
  refine ym ?_
  refine vc_e (e_call [_, _] rfl rfl call52 rfl (rwant_any c [41] σ7 hrσ7 _ (hC.k1 st.chg) (by exact st.res (i := 4) rfl)) ?_)
  rintro _ w ⟨rfl, hP1, cw⟩
  replace st := St.prs (b := c.rb) st 4 rfl cw (.inl (.head _)) hP1
  obtain ⟨σ8, hσ8⟩ : ∃ x, wantR c.e [41] σ7 = x := ⟨_, rfl⟩
  rw [hσ8] at st
  have hsfσ8 : σ8.r <:+ σ7.r := by rw [← hσ8]; exact wantR_suf
  have hrσ8 := hsfσ8.trans hrσ7
  refine et (vk3 0 3 4 (sr ?_))
  refine ym ?_
  refine vc_e (e_call [_, _] rfl rfl call52 rfl (rwant_any c [59] σ8 hrσ8 _ (hC.k1 st.chg) (by exact st.res (i := 4) rfl)) ?_)
  rintro _ w ⟨rfl, hP1, cw⟩
  replace st := St.prs (b := c.rb) st 4 rfl cw (.inl (.head _)) hP1
  obtain ⟨σ9, hσ9⟩ : ∃ x, wantR c.e [59] σ8 = x := ⟨_, rfl⟩
  rw [hσ9] at st
  have hsfσ9 : σ9.r <:+ σ8.r := by rw [← hσ9]; exact wantR_suf
  have hrσ9 := hsfσ9.trans hrσ8
  refine et (vk2 3 4 (sr ?_))
  refine yla st 3 [_, _, _, _, _, _, _] isAgg56 sizeOf56 ?_
  refine vc_e (e_sts (vs := [_, _, _, _, _, _, _]) st 2 rfl rfl rfl rfl rfl sizeOf56 rfl rfl (by (right; assumption)) ?_)
  intro w st
  refine et (vk1 4 (vc_ret ?_))
  refine vq_ret1 st (.inl rfl) results83 (by exact .cell 2 rfl rfl isAgg56 sizeOf56) ?_
  refine ⟨_, rfl, ?_⟩
  have hdone : Done (run (assignP c.e a) σ) (.mk 2 (nameT σ) (nameT σ4) [x] [] [] (a : Int)) σ9 := by
   rw [← hσ9, ← hσ8]
   exact assign_swap (by rw [hσ1, hσ2]; exact hT) (by rw [hσ1, hσ2, hσ3]; exact hσ4.symm) (by rw [hσ5, hσ6]; exact hDσ7)
  refine ⟨_, σ9, hdone, hsfσ9.trans (hsfσ8.trans (hsfσ7.trans (hsfσ6.trans (hsfσ5.trans (hsfσ4.trans (hsfσ3.trans (hsfσ2.trans hsfσ1))))))), (by exact st.res (i := 4) rfl), st.chg, some ⟨b34, 0, none⟩, none, none, 1, 0, 0, b34 :: Sx, rfl, SmS_iff.2 ⟨some ⟨b34, 0, none⟩, 1, none, 0, none, 0, b34 :: Sx, [], [], rfl, (by exact ex_one (st.res (i := 0) rfl) (st.res (i := 1) rfl).1), smr_nil, smr_nil, by simp⟩, Nw.app (S := [b34]) ⟨by simp, by simpa using hb34⟩ hNSx (fun b hb hb' => by exact st.ne (i := 0) (j := 1) (by decide) rfl rfl b hb hb')⟩
 intro hc19
 have hF : takeB wSwap σ2 = false := hc19
 rw [takeR_neg hF] at st
 refine sr ?_
 refine vy (y_fa0 rfl underlying56 rfl rfl sizeOf53 rfl) ?_
 refine vc_e (e_st st 1 rfl rfl rfl rfl sizeOf53 rfl rfl (by (right; assumption)) ?_)
 intro w st
 refine et (vk3 0 3 4 (vc_region ?_))
 refine ym ?_
 refine vc_e (e_call [_, _, _] rfl rfl call82 rfl (rexpr_any c σ2 hrσ2 _ (hC.k1 st.chg) (by exact st.res (i := 2) rfl)) ?_)
 rintro _ w ⟨x, σ7, hDσ7, hsfσ7, hP1, cw, ox, cx, Sx, rfl, hQ, hN⟩
 have hNSx := hN.le st.chg.size
 replace st := St.prsT (b := c.rb) st 2 rfl cw (.inl (.head _)) hP1 (holds_ex hQ) hN.2
 have hrσ7 := hsfσ7.trans hrσ2
 refine vc_e (e_bs1 (l := [_, _, _, _, _, _]) st rfl rfl rfl rfl underlying54 sizeOf60 rfl rfl rfl zeroValue60 ?_)
 intro b41 w hb41 st
 refine yfz 3 underlying56 sizeOf54 ?_
 refine vc_e (e_st st 3 rfl rfl rfl rfl sizeOf54 rfl rfl (by (right; assumption)) ?_)
 intro w st
 refine et (vk3 0 3 4 (sr ?_))
 refine ym ?_
 refine vc_e (e_call [_, _] rfl rfl call52 rfl (rwant_any c [59] σ7 hrσ7 _ (hC.k1 st.chg) (by exact st.res (i := 4) rfl)) ?_)
 rintro _ w ⟨rfl, hP1, cw⟩
 replace st := St.prs (b := c.rb) st 4 rfl cw (.inl (.head _)) hP1
 obtain ⟨σ9, hσ9⟩ : ∃ x, wantR c.e [59] σ7 = x := ⟨_, rfl⟩
 rw [hσ9] at st
 have hsfσ9 : σ9.r <:+ σ7.r := by rw [← hσ9]; exact wantR_suf
 have hrσ9 := hsfσ9.trans hrσ7
 refine et (vk2 3 4 (sr ?_))
 refine yla st 3 [_, _, _, _, _, _, _] isAgg56 sizeOf56 ?_
 refine vc_e (e_sts (vs := [_, _, _, _, _, _, _]) st 2 rfl rfl rfl rfl rfl sizeOf56 rfl rfl (by (right; assumption)) ?_)
 intro w st
 refine et (vk1 4 (vc_ret ?_))
 refine vq_ret1 st (.inl rfl) results83 (by exact .cell 2 rfl rfl isAgg56 sizeOf56) ?_
 refine ⟨_, rfl, ?_⟩
 have hdone : Done (run (assignP c.e a) σ) (.mk 1 (nameT σ) [] [x] [] [] (a : Int)) σ9 := by
  rw [← hσ9]
  exact assign_plain (by rw [hσ1, hσ2]; exact hF) (by rw [hσ1, hσ2]; exact hDσ7)
 refine ⟨_, σ9, hdone, hsfσ9.trans (hsfσ7.trans (hsfσ2.trans hsfσ1)), (by exact st.res (i := 4) rfl), st.chg, some ⟨b41, 0, none⟩, none, none, 1, 0, 0, b41 :: Sx, rfl, SmS_iff.2 ⟨some ⟨b41, 0, none⟩, 1, none, 0, none, 0, b41 :: Sx, [], [], rfl, (by exact ex_one (st.res (i := 0) rfl) (st.res (i := 1) rfl).1), smr_nil, smr_nil, by simp⟩, Nw.app (S := [b41]) ⟨by simp, by simpa using hb41⟩ hNSx (fun b hb hb' => by exact st.ne (i := 0) (j := 1) (by decide) rfl rfl b hb hb')⟩
set_option maxHeartbeats 2000000 in
theorem rstmt_of (c : RCtx) (n : Nat) (hB : ∀ k, k < n → BKR c k) : SMR c n := by
 intro m d hd σ hr ho hn w hC hP
 refine ret_of [_, _] func64 rfl ntmps64 rfl ?_
 obtain ⟨w0, rfl⟩ : ∃ w0, w0 = w := ⟨_, rfl⟩
 have hP' := hP
 dsimp only [RAt, rcell] at hP
 have st := St.of1 [c.rb] hP
 have h20 := hC.len
 have hl := suf_len hr
 have hk4 : (here σ.r).kind = 4 → isSign (here σ.r).text = true := fun hk => by
  have hne := kind_ne hk (by decide)
  obtain ⟨x, l, hxl⟩ : ∃ x l, σ.r = x :: l := by
   cases hq : σ.r with
   | nil => exact absurd hq hne
   | cons x l => exact ⟨x, l, rfl⟩
  rw [hxl] at hk ⊢
  exact hC.sg x (hr.subset (by rw [hxl]; exact .head _)) hk
 refine sr ?_
 refine vc_e (e_al (l := [_, _, _, _, _, _, _]) st rfl rfl zeroValue56 rfl ?_)
 intro b4 w hb4 st
 refine et (vk3 0 1 4 (sr ?_))
 refine ym ?_
 refine vc_e (e_call [_] rfl rfl call50 rfl (rhere_any c σ hr _ (hC.k1 st.chg) (by exact st.res (i := 1) rfl)) ?_)
 rintro _ w ⟨rfl, cw⟩
 replace st := st.call0 cw
 refine vy (y_fld rfl underlying82 rfl rfl isAgg3 rfl) ?_
 refine vy (y_bld (.agg #[_, _, _, _, _, _, _]) [(6, _)] rfl (fun w => by simp [Instr.build, go_sem] <;> repeat' constructor)) ?_
 refine vc_e (e_al (l := [_, _, _, _, _, _, _]) st rfl rfl zeroValue56 rfl ?_)
 intro b5 w hb5 st
 refine vc_e (e_sts (vs := [_, _, _, _, _, _, _]) st 0 rfl rfl rfl rfl rfl sizeOf56 rfl rfl (by (right; assumption)) ?_)
 intro w st
 refine et (vk4 0 1 4 5 (vc_seq (vc_block (sr ?_))))
 refine ym ?_
 refine vc_e (e_call [_, _] rfl rfl call31 rfl (rtake_any c wIf σ hr _ (hC.k1 st.chg) (by exact st.res (i := 2) rfl)) ?_)
 rintro _ w ⟨rfl, hP1, cw⟩
 replace st := St.prs (b := c.rb) st 2 rfl cw (.inl (.head _)) hP1
 refine ya ?_
 refine et (vk5 0 1 4 5 15 ?_)
 refine vif ?_ ?_
 ·intro hc15
  have hT1 : takeB wIf σ = true := hc15
  have htl := tail_lt (isT_ne (takeB_pos hT1).2)
  rw [takeR_pos hT1] at st
  obtain ⟨σ1, hσ1⟩ : ∃ x, (RS.mk σ.r.tail σ.f) = x := ⟨_, rfl⟩
  rw [hσ1] at st
  have hsfσ1 : σ1.r <:+ σ.r := by rw [← hσ1]; exact List.tail_suffix _
  have hrσ1 := hsfσ1.trans hr
  have hl1 : σ1.r.length < σ.r.length := by rw [← hσ1]; exact htl
  refine sr ?_
  refine vy (y_fa0 rfl underlying56 rfl rfl sizeOf53 rfl) ?_
  refine vc_e (e_st st 0 rfl rfl rfl rfl sizeOf53 rfl rfl (by (right; assumption)) ?_)
  intro w st
  refine et (vk4 0 1 4 5 (sr ?_))
  refine ym ?_
  refine vc_e (e_call [_] rfl rfl call80 rfl (rround_any c σ1 hrσ1 _ (hC.k1 st.chg) (by exact st.res (i := 2) rfl)) ?_)
  rintro _ w ⟨x, σ2, hDσ2, hsfσ2, hP1, cw, ox, cx, Sx, rfl, hQ, hN⟩
  have hNSx := hN.le st.chg.size
  replace st := St.prsT (b := c.rb) st 2 rfl cw (.inl (.head _)) hP1 (holds_ex hQ) hN.2
  have hrσ2 := hsfσ2.trans hrσ1
  have hlσ2 := suf_len hsfσ2
  refine yfz 3 underlying56 sizeOf54 ?_
  refine vc_e (e_st st 1 rfl rfl rfl rfl sizeOf54 rfl rfl (by (right; assumption)) ?_)
  intro w st
  refine et (vk4 0 1 4 5 (sr ?_))
  iterate 2 refine ym ?_
  refine vc_e (e_call [_, _] rfl rfl call81 rfl (hB σ1.r.length (by omega) m d hd σ2 hrσ2 (fun _ => by omega) _ (hC.k1 st.chg) (by exact st.res (i := 3) rfl)) ?_)
  rintro _ w ⟨b, σ3, hDσ3, hsfσ3, hP1, cw, ob, cb, Sb, rfl, hQ, hN⟩
  have hNSb := hN.le st.chg.size
  replace st := St.prsT (b := c.rb) st 3 rfl cw (.inl (.head _)) hP1 (holds_sm hQ) hN.2
  have hrσ3 := hsfσ3.trans hrσ2
  have hlσ3 := suf_len hsfσ3
  refine yfz 4 underlying56 sizeOf48 ?_
  refine vc_e (e_st st 2 rfl rfl rfl rfl sizeOf48 rfl rfl (by (right; assumption)) ?_)
  intro w st
  refine et (vk4 0 1 4 5 (sr ?_))
  refine ym ?_
  refine vc_e (e_call [_, _] rfl rfl call31 rfl (rtake_any c wElse σ3 hrσ3 _ (hC.k1 st.chg) (by exact st.res (i := 4) rfl)) ?_)
  rintro _ w ⟨rfl, hP1, cw⟩
  replace st := St.prs (b := c.rb) st 4 rfl cw (.inl (.head _)) hP1
  refine et (vk5 0 1 4 5 27 ?_)
  refine vif ?_ ?_
  ·intro hc27
   have hTe : takeB wElse σ3 = true := hc27
   rw [takeR_pos hTe] at st
   obtain ⟨σ4, hσ4⟩ : ∃ x, (RS.mk σ3.r.tail σ3.f) = x := ⟨_, rfl⟩
   rw [hσ4] at st
   have hsfσ4 : σ4.r <:+ σ3.r := by rw [← hσ4]; exact List.tail_suffix _
   have hrσ4 := hsfσ4.trans hrσ3
   have hlσ4 := suf_len hsfσ4
   refine vc_region ?_
   iterate 2 refine ym ?_
   refine vc_e (e_call [_, _] rfl rfl call81 rfl (hB σ1.r.length (by omega) m d hd σ4 hrσ4 (fun _ => by omega) _ (hC.k1 st.chg) (by exact st.res (i := 4) rfl)) ?_)
   rintro _ w ⟨l, σ5, hDσ5, hsfσ5, hP1, cw, ol, cl, Sl, rfl, hQ, hN⟩
   have hNSl := hN.le st.chg.size
   replace st := St.prsT (b := c.rb) st 4 rfl cw (.inl (.head _)) hP1 (holds_sm hQ) hN.2
   have hrσ5 := hsfσ5.trans hrσ4
   have hlσ5 := suf_len hsfσ5
   refine yfz 5 underlying56 sizeOf48 ?_
   refine vc_e (e_st st 3 rfl rfl rfl rfl sizeOf48 rfl rfl (by (right; assumption)) ?_)
   intro w st
   refine vc_end (vq_block (vq_then (vk2 4 5 (sr ?_))))
   refine yla st 3 [_, _, _, _, _, _, _] isAgg56 sizeOf56 ?_
   refine vc_e (e_sts (vs := [_, _, _, _, _, _, _]) st 4 rfl rfl rfl rfl rfl sizeOf56 rfl rfl (by (right; assumption)) ?_)
   intro w st
   refine et (vk1 4 (vc_ret ?_))
   refine vq_ret1 st (.inl rfl) results64 (by exact .cell 4 rfl rfl isAgg56 sizeOf56) ?_
   refine ⟨_, rfl, ?_⟩
   have hdone := choice_else (a := atT c.e σ.r) hDσ2 hDσ3 hTe (by rw [hσ4]; exact hDσ5)
   rw [← hσ1, ← stmt_if hk4 hT1, ← stmtP_blk] at hdone
   rw [← hereE_at] at hdone
   refine ⟨_, σ5, hdone, hsfσ5.trans (hsfσ4.trans (hsfσ3.trans (hsfσ2.trans hsfσ1))), (by exact st.res (i := 5) rfl), st.chg, ox, ob, ol, cx, cb, cl, Sx ++ (Sb ++ Sl), rfl, SmS_iff.2 ⟨ox, cx, ob, cb, ol, cl, Sx, Sb, Sl, rfl, (st.res (i := 2) rfl).1, (st.res (i := 1) rfl).1, (st.res (i := 0) rfl).1, rfl⟩, hNSx.app (hNSb.app hNSl (st.ne (i := 1) (j := 0) (by decide) rfl rfl)) (fun k hk hk' => (List.mem_append.1 hk').elim ((st.ne (i := 2) (j := 1) (by decide) rfl rfl) k hk) ((st.ne (i := 2) (j := 0) (by decide) rfl rfl) k hk))⟩
  intro hc27
  have hFe : takeB wElse σ3 = false := hc27
  rw [takeR_neg hFe] at st
  refine vc_code_skip (vq_block (vq_then (vk2 4 5 (sr ?_))))
  refine yla st 2 [_, _, _, _, _, _, _] isAgg56 sizeOf56 ?_
  refine vc_e (e_sts (vs := [_, _, _, _, _, _, _]) st 3 rfl rfl rfl rfl rfl sizeOf56 rfl rfl (by (right; assumption)) ?_)
  intro w st
  refine et (vk1 4 (vc_ret ?_))
  refine vq_ret1 st (.inl rfl) results64 (by exact .cell 3 rfl rfl isAgg56 sizeOf56) ?_
  refine ⟨_, rfl, ?_⟩
  have hdone := choice_one (a := atT c.e σ.r) hDσ2 hDσ3 hFe
  rw [← hσ1, ← stmt_if hk4 hT1, ← stmtP_blk] at hdone
  rw [← hereE_at] at hdone
  refine ⟨_, σ3, hdone, hsfσ3.trans (hsfσ2.trans hsfσ1), (by exact st.res (i := 4) rfl), st.chg, ox, ob, none, cx, cb, 0, Sx ++ (Sb ++ []), rfl, SmS_iff.2 ⟨ox, cx, ob, cb, none, 0, Sx, Sb, [], rfl, (st.res (i := 1) rfl).1, (st.res (i := 0) rfl).1, smr_nil, rfl⟩, by rw [List.append_nil]; exact hNSx.app hNSb (st.ne (i := 1) (j := 0) (by decide) rfl rfl)⟩
 intro hc15
 have hF1 : takeB wIf σ = false := hc15
 rw [takeR_neg hF1] at st
 refine sr ?_
 refine ym ?_
 refine vc_e (e_call [_, _] rfl rfl call31 rfl (rtake_any c wWhile σ hr _ (hC.k1 st.chg) (by exact st.res (i := 2) rfl)) ?_)
 rintro _ w ⟨rfl, hP1, cw⟩
 replace st := St.prs (b := c.rb) st 2 rfl cw (.inl (.head _)) hP1
 refine ya ?_
 refine et (vk5 0 1 4 5 32 ?_)
 refine vif ?_ ?_
 ·intro hc32
  have hT2 : takeB wWhile σ = true := hc32
  have htl := tail_lt (isT_ne (takeB_pos hT2).2)
  rw [takeR_pos hT2] at st
  obtain ⟨σ1, hσ1⟩ : ∃ x, (RS.mk σ.r.tail σ.f) = x := ⟨_, rfl⟩
  rw [hσ1] at st
  have hsfσ1 : σ1.r <:+ σ.r := by rw [← hσ1]; exact List.tail_suffix _
  have hrσ1 := hsfσ1.trans hr
  have hl1 : σ1.r.length < σ.r.length := by rw [← hσ1]; exact htl
  refine sr ?_
  refine vy (y_fa0 rfl underlying56 rfl rfl sizeOf53 rfl) ?_
  refine vc_e (e_st st 0 rfl rfl rfl rfl sizeOf53 rfl rfl (by (right; assumption)) ?_)
  intro w st
  refine et (vk4 0 1 4 5 (sr ?_))
  refine ym ?_
  refine vc_e (e_call [_] rfl rfl call80 rfl (rround_any c σ1 hrσ1 _ (hC.k1 st.chg) (by exact st.res (i := 2) rfl)) ?_)
  rintro _ w ⟨x, σ2, hDσ2, hsfσ2, hP1, cw, ox, cx, Sx, rfl, hQ, hN⟩
  have hNSx := hN.le st.chg.size
  replace st := St.prsT (b := c.rb) st 2 rfl cw (.inl (.head _)) hP1 (holds_ex hQ) hN.2
  have hrσ2 := hsfσ2.trans hrσ1
  have hlσ2 := suf_len hsfσ2
  refine yfz 3 underlying56 sizeOf54 ?_
  refine vc_e (e_st st 1 rfl rfl rfl rfl sizeOf54 rfl rfl (by (right; assumption)) ?_)
  intro w st
  refine et (vk4 0 1 4 5 (vc_region ?_))
  iterate 2 refine ym ?_
  refine vc_e (e_call [_, _] rfl rfl call81 rfl (hB σ1.r.length (by omega) m d hd σ2 hrσ2 (fun _ => by omega) _ (hC.k1 st.chg) (by exact st.res (i := 3) rfl)) ?_)
  rintro _ w ⟨b, σ3, hDσ3, hsfσ3, hP1, cw, ob, cb, Sb, rfl, hQ, hN⟩
  have hNSb := hN.le st.chg.size
  replace st := St.prsT (b := c.rb) st 3 rfl cw (.inl (.head _)) hP1 (holds_sm hQ) hN.2
  have hrσ3 := hsfσ3.trans hrσ2
  have hlσ3 := suf_len hsfσ3
  refine yfz 4 underlying56 sizeOf48 ?_
  refine vc_e (e_st st 2 rfl rfl rfl rfl sizeOf48 rfl rfl (by (right; assumption)) ?_)
  intro w st
  refine vc_end (vq_block (vq_then (vk2 4 5 (sr ?_))))
  refine yla st 2 [_, _, _, _, _, _, _] isAgg56 sizeOf56 ?_
  refine vc_e (e_sts (vs := [_, _, _, _, _, _, _]) st 3 rfl rfl rfl rfl rfl sizeOf56 rfl rfl (by (right; assumption)) ?_)
  intro w st
  refine et (vk1 4 (vc_ret ?_))
  refine vq_ret1 st (.inl rfl) results64 (by exact .cell 3 rfl rfl isAgg56 sizeOf56) ?_
  refine ⟨_, rfl, ?_⟩
  have hdone := loop_done (a := atT c.e σ.r) hDσ2 hDσ3
  rw [← hσ1, ← stmt_while hk4 hF1 hT2, ← stmtP_blk] at hdone
  rw [← hereE_at] at hdone
  refine ⟨_, σ3, hdone, hsfσ3.trans (hsfσ2.trans hsfσ1), (by exact st.res (i := 4) rfl), st.chg, ox, ob, none, cx, cb, 0, Sx ++ (Sb ++ []), rfl, SmS_iff.2 ⟨ox, cx, ob, cb, none, 0, Sx, Sb, [], rfl, (st.res (i := 1) rfl).1, (st.res (i := 0) rfl).1, smr_nil, rfl⟩, by rw [List.append_nil]; exact hNSx.app hNSb (st.ne (i := 1) (j := 0) (by decide) rfl rfl)⟩
 intro hc32
 have hF2 : takeB wWhile σ = false := hc32
 rw [takeR_neg hF2] at st
 refine sr ?_
 refine ym ?_
 refine vc_e (e_call [_, _] rfl rfl call31 rfl (rtake_any c wLock σ hr _ (hC.k1 st.chg) (by exact st.res (i := 2) rfl)) ?_)
 rintro _ w ⟨rfl, hP1, cw⟩
 replace st := St.prs (b := c.rb) st 2 rfl cw (.inl (.head _)) hP1
 refine ya ?_
 refine et (vk5 0 1 4 5 43 ?_)
 refine vif ?_ ?_
 ·intro hc43
  have hT3 : takeB wLock σ = true := hc43
  have htl := tail_lt (isT_ne (takeB_pos hT3).2)
  rw [takeR_pos hT3] at st
  obtain ⟨σ1, hσ1⟩ : ∃ x, (RS.mk σ.r.tail σ.f) = x := ⟨_, rfl⟩
  rw [hσ1] at st
  have hsfσ1 : σ1.r <:+ σ.r := by rw [← hσ1]; exact List.tail_suffix _
  have hrσ1 := hsfσ1.trans hr
  have hl1 : σ1.r.length < σ.r.length := by rw [← hσ1]; exact htl
  refine sr ?_
  refine vy (y_fa0 rfl underlying56 rfl rfl sizeOf53 rfl) ?_
  refine vc_e (e_st st 0 rfl rfl rfl rfl sizeOf53 rfl rfl (by (right; assumption)) ?_)
  intro w st
  refine et (vk4 0 1 4 5 (sr ?_))
  refine ym ?_
  refine vc_e (e_call [_] rfl rfl call49 rfl (rname_any c σ1 hrσ1 _ (hC.k1 st.chg) (by exact st.res (i := 2) rfl)) ?_)
  rintro _ w ⟨rfl, hP1, cw⟩
  replace st := St.prs (b := c.rb) st 2 rfl cw (.inl (.head _)) hP1
  obtain ⟨σ2, hσ2⟩ : ∃ x, nameR c.e σ1 = x := ⟨_, rfl⟩
  rw [hσ2] at st
  have hsfσ2 : σ2.r <:+ σ1.r := by rw [← hσ2]; exact nameR_suf
  have hrσ2 := hsfσ2.trans hrσ1
  have hlσ2 := suf_len hsfσ2
  refine ym ?_
  iterate 2 refine vy (y_ext rfl rfl) ?_
  iterate 2 refine ya ?_
  refine et (vk5 0 1 4 5 6 (sr ?_))
  refine ym ?_
  refine yfz 1 underlying56 sizeOf9 ?_
  refine vc_e (e_st st 0 rfl rfl rfl rfl sizeOf9 rfl rfl (by (right; assumption)) ?_)
  intro w st
  refine et (vk4 0 1 4 5 (vc_region ?_))
  iterate 2 refine ym ?_
  refine vc_e (e_call [_, _] rfl rfl call81 rfl (hB σ1.r.length (by omega) m d hd σ2 hrσ2 (fun _ => by omega) _ (hC.k1 st.chg) (by exact st.res (i := 2) rfl)) ?_)
  rintro _ w ⟨b, σ3, hDσ3, hsfσ3, hP1, cw, ob, cb, Sb, rfl, hQ, hN⟩
  have hNSb := hN.le st.chg.size
  replace st := St.prsT (b := c.rb) st 2 rfl cw (.inl (.head _)) hP1 (holds_sm hQ) hN.2
  have hrσ3 := hsfσ3.trans hrσ2
  have hlσ3 := suf_len hsfσ3
  refine yfz 4 underlying56 sizeOf48 ?_
  refine vc_e (e_st st 1 rfl rfl rfl rfl sizeOf48 rfl rfl (by (right; assumption)) ?_)
  intro w st
  refine vc_end (vq_block (vq_then (vk2 4 5 (sr ?_))))
  refine yla st 1 [_, _, _, _, _, _, _] isAgg56 sizeOf56 ?_
  refine vc_e (e_sts (vs := [_, _, _, _, _, _, _]) st 2 rfl rfl rfl rfl rfl sizeOf56 rfl rfl (by (right; assumption)) ?_)
  intro w st
  refine et (vk1 4 (vc_ret ?_))
  refine vq_ret1 st (.inl rfl) results64 (by exact .cell 2 rfl rfl isAgg56 sizeOf56) ?_
  refine ⟨_, rfl, ?_⟩
  have hdone := guard_done (a := atT c.e σ.r) (σ := σ1) (by rw [hσ2]; exact hDσ3)
  rw [← hσ1, ← stmt_lock hk4 hF1 hF2 hT3, ← stmtP_blk, hσ1] at hdone
  rw [← hereE_at] at hdone
  refine ⟨_, σ3, hdone, hsfσ3.trans (hsfσ2.trans hsfσ1), (by exact st.res (i := 3) rfl), st.chg, none, ob, none, 0, cb, 0, [] ++ (Sb ++ []), rfl, SmS_iff.2 ⟨none, 0, ob, cb, none, 0, [], Sb, [], rfl, exr_nil, (by exact (st.res (i := 0) rfl).1), smr_nil, rfl⟩, by simpa using hNSb⟩
 intro hc43
 have hF3 : takeB wLock σ = false := hc43
 rw [takeR_neg hF3] at st
 refine sr ?_
 refine ym ?_
 refine vc_e (e_call [_, _] rfl rfl call31 rfl (rtake_any c wPrint σ hr _ (hC.k1 st.chg) (by exact st.res (i := 2) rfl)) ?_)
 rintro _ w ⟨rfl, hP1, cw⟩
 replace st := St.prs (b := c.rb) st 2 rfl cw (.inl (.head _)) hP1
 refine ya ?_
 refine et (vk4 0 4 5 58 ?_)
 refine vif ?_ ?_
 ·intro hc58
  have hT4 : takeB wPrint σ = true := hc58
  have htl := tail_lt (isT_ne (takeB_pos hT4).2)
  rw [takeR_pos hT4] at st
  obtain ⟨σ1, hσ1⟩ : ∃ x, (RS.mk σ.r.tail σ.f) = x := ⟨_, rfl⟩
  rw [hσ1] at st
  have hsfσ1 : σ1.r <:+ σ.r := by rw [← hσ1]; exact List.tail_suffix _
  have hrσ1 := hsfσ1.trans hr
  have hl1 : σ1.r.length < σ.r.length := by rw [← hσ1]; exact htl
  refine sr ?_
  refine vy (y_fa0 rfl underlying56 rfl rfl sizeOf53 rfl) ?_
  refine vc_e (e_st st 0 rfl rfl rfl rfl sizeOf53 rfl rfl (by (right; assumption)) ?_)
  intro w st
  refine et (vk3 0 4 5 (sr ?_))
  refine ym ?_
  refine vc_e (e_call [_, _, _] rfl rfl call82 rfl (rexpr_any c σ1 hrσ1 _ (hC.k1 st.chg) (by exact st.res (i := 2) rfl)) ?_)
  rintro _ w ⟨x, σ2, hDσ2, hsfσ2, hP1, cw, ox, cx, Sx, rfl, hQ, hN⟩
  have hNSx := hN.le st.chg.size
  replace st := St.prsT (b := c.rb) st 2 rfl cw (.inl (.head _)) hP1 (holds_ex hQ) hN.2
  have hrσ2 := hsfσ2.trans hrσ1
  refine vc_e (e_bs1 (l := [_, _, _, _, _, _]) st rfl rfl rfl rfl underlying54 sizeOf60 rfl rfl rfl zeroValue60 ?_)
  intro b64 w hb64 st
  refine yfz 3 underlying56 sizeOf54 ?_
  refine vc_e (e_st st 2 rfl rfl rfl rfl sizeOf54 rfl rfl (by (right; assumption)) ?_)
  intro w st
  refine et (vk3 0 4 5 (vc_region ?_))
  refine ym ?_
  refine vc_e (e_call [_, _] rfl rfl call52 rfl (rwant_any c [59] σ2 hrσ2 _ (hC.k1 st.chg) (by exact st.res (i := 4) rfl)) ?_)
  rintro _ w ⟨rfl, hP1, cw⟩
  replace st := St.prs (b := c.rb) st 4 rfl cw (.inl (.head _)) hP1
  obtain ⟨σ3, hσ3⟩ : ∃ x, wantR c.e [59] σ2 = x := ⟨_, rfl⟩
  rw [hσ3] at st
  have hsfσ3 : σ3.r <:+ σ2.r := by rw [← hσ3]; exact wantR_suf
  have hrσ3 := hsfσ3.trans hrσ2
  refine vc_end (vq_block (vq_then (vk2 4 5 (sr ?_))))
  refine yla st 2 [_, _, _, _, _, _, _] isAgg56 sizeOf56 ?_
  refine vc_e (e_sts (vs := [_, _, _, _, _, _, _]) st 3 rfl rfl rfl rfl rfl sizeOf56 rfl rfl (by (right; assumption)) ?_)
  intro w st
  refine et (vk1 4 (vc_ret ?_))
  refine vq_ret1 st (.inl rfl) results64 (by exact .cell 3 rfl rfl isAgg56 sizeOf56) ?_
  refine ⟨_, rfl, ?_⟩
  have hdone := print_done (a := atT c.e σ.r) hDσ2
  rw [← hσ1, ← stmt_print (blk := blkP c.e m) hk4 hF1 hF2 hF3 hT4, ← stmtP_blk, hσ3] at hdone
  rw [← hereE_at] at hdone
  refine ⟨_, σ3, hdone, hsfσ3.trans (hsfσ2.trans hsfσ1), (by exact st.res (i := 4) rfl), st.chg, (some ⟨b64, 0, none⟩), none, none, 1, 0, 0, (b64 :: Sx) ++ ([] ++ []), rfl, SmS_iff.2 ⟨(some ⟨b64, 0, none⟩), 1, none, 0, none, 0, (b64 :: Sx), [], [], rfl, (by exact ex_one (st.res (i := 0) rfl) (st.res (i := 1) rfl).1), smr_nil, smr_nil, rfl⟩, by simpa using Nw.app (S := [b64]) ⟨by simp, by simpa using hb64⟩ hNSx (fun b hb hb' => by exact st.ne (i := 0) (j := 1) (by decide) rfl rfl b hb hb')⟩
 intro hc58
 have hF4 : takeB wPrint σ = false := hc58
 rw [takeR_neg hF4] at st
 refine sr ?_
 refine ym ?_
 refine vc_e (e_call [_, _] rfl rfl call31 rfl (rtake_any c wSkip σ hr _ (hC.k1 st.chg) (by exact st.res (i := 2) rfl)) ?_)
 rintro _ w ⟨rfl, hP1, cw⟩
 replace st := St.prs (b := c.rb) st 2 rfl cw (.inl (.head _)) hP1
 refine ya ?_
 refine et (vk4 0 4 5 68 ?_)
 refine vif ?_ ?_
 ·intro hc68
  have hT5 : takeB wSkip σ = true := hc68
  have htl := tail_lt (isT_ne (takeB_pos hT5).2)
  rw [takeR_pos hT5] at st
  obtain ⟨σ1, hσ1⟩ : ∃ x, (RS.mk σ.r.tail σ.f) = x := ⟨_, rfl⟩
  rw [hσ1] at st
  have hsfσ1 : σ1.r <:+ σ.r := by rw [← hσ1]; exact List.tail_suffix _
  have hrσ1 := hsfσ1.trans hr
  have hl1 : σ1.r.length < σ.r.length := by rw [← hσ1]; exact htl
  refine sr ?_
  refine vy (y_fa0 rfl underlying56 rfl rfl sizeOf53 rfl) ?_
  refine vc_e (e_st st 0 rfl rfl rfl rfl sizeOf53 rfl rfl (by (right; assumption)) ?_)
  intro w st
  refine et (vk3 0 4 5 (vc_region ?_))
  refine ym ?_
  refine vc_e (e_call [_, _] rfl rfl call52 rfl (rwant_any c [59] σ1 hrσ1 _ (hC.k1 st.chg) (by exact st.res (i := 2) rfl)) ?_)
  rintro _ w ⟨rfl, hP1, cw⟩
  replace st := St.prs (b := c.rb) st 2 rfl cw (.inl (.head _)) hP1
  obtain ⟨σ3, hσ3⟩ : ∃ x, wantR c.e [59] σ1 = x := ⟨_, rfl⟩
  rw [hσ3] at st
  have hsfσ3 : σ3.r <:+ σ1.r := by rw [← hσ3]; exact wantR_suf
  have hrσ3 := hsfσ3.trans hrσ1
  refine vc_end (vq_block (vq_then (vk2 4 5 (sr ?_))))
  refine yla st 0 [_, _, _, _, _, _, _] isAgg56 sizeOf56 ?_
  refine vc_e (e_sts (vs := [_, _, _, _, _, _, _]) st 1 rfl rfl rfl rfl rfl sizeOf56 rfl rfl (by (right; assumption)) ?_)
  intro w st
  refine et (vk1 4 (vc_ret ?_))
  refine vq_ret1 st (.inl rfl) results64 (by exact .cell 1 rfl rfl isAgg56 sizeOf56) ?_
  refine ⟨_, rfl, ?_⟩
  have hdone := skip_done (e := c.e) (a := atT c.e σ.r) (σ := σ1)
  rw [hσ3, ← hσ1, ← stmt_skip (blk := blkP c.e m) hk4 hF1 hF2 hF3 hF4 hT5, ← stmtP_blk] at hdone
  rw [← hereE_at] at hdone
  refine ⟨_, σ3, hdone, hsfσ3.trans hsfσ1, (by exact st.res (i := 2) rfl), st.chg, none, none, none, 0, 0, 0, [] ++ ([] ++ []), rfl, SmS_iff.2 ⟨none, 0, none, 0, none, 0, [], [], [], rfl, exr_nil, smr_nil, smr_nil, rfl⟩, Nw.nil⟩
 intro hc68
 have hF5 : takeB wSkip σ = false := hc68
 rw [takeR_neg hF5] at st
 refine vc_region ?_
 refine ym ?_
 refine yla st 0 [_, _, _, _, _, _, _] isAgg56 sizeOf56 ?_
 refine vc_e (e_call [_, _] rfl rfl call83 rfl (rassign_any (hereE c.e σ.r).at_ c σ hr _ (hC.k1 st.chg) (by exact st.res (i := 2) rfl)) ?_)
 rintro _ w ⟨s, σ3, hD, hsf, hP1, cw, oe, ob, ol, ce, cb, cl, Ss, rfl, hQ, hN⟩
 have hNSs := hN.le st.chg.size
 replace st := St.prsT (b := c.rb) st 2 rfl cw (.inl (.head _)) hP1 (holds_sms hQ) hN.2
 rw [hereE_at] at hD
 refine vc_e (e_sts (vs := [_, _, _, _, _, _, _]) st 1 rfl rfl rfl rfl rfl sizeOf56 rfl rfl (by (right; assumption)) ?_)
 intro w st
 refine vc_end (vq_block (vq_then (vk2 4 5 (sr ?_))))
 refine yla st 1 [_, _, _, _, _, _, _] isAgg56 sizeOf56 ?_
 refine vc_e (e_sts (vs := [_, _, _, _, _, _, _]) st 2 rfl rfl rfl rfl rfl sizeOf56 rfl rfl (by (right; assumption)) ?_)
 intro w st
 refine et (vk1 4 (vc_ret ?_))
 refine vq_ret1 st (.inl rfl) results64 (by exact .cell 2 rfl rfl isAgg56 sizeOf56) ?_
 refine ⟨_, rfl, ?_⟩
 exact ⟨s, σ3, by rw [stmtP_blk, stmt_assign hk4 hF1 hF2 hF3 hF4 hF5]; exact hD, hsf, (by exact st.res (i := 3) rfl), st.chg, oe, ob, ol, ce, cb, cl, Ss, rfl, (by exact (st.res (i := 0) rfl).1), hNSs⟩
theorem rbody_any (c : RCtx) : ∀ n, SMR c n ∧ SSR c n ∧ BKR c n := fun n => by
 induction n using Nat.strongRecOn with
 | _ n ih =>
  have hS := rstmt_of c n (fun k hk => (ih k hk).2.2)
  have hSS := rstmts_of c n hS
  exact ⟨hS, hSS, rblock_of c n hSS⟩
theorem rstmts_any (c : RCtx) (σ : RS) (hr : σ.r <:+ c.ts) (w : World) (hC : RCok c w) (hP : RAt c σ w) : Ret Tryz.prog 53 [.pointer (some ⟨c.rb, 0, none⟩), .int .i64 1] w (RRes c σ (restP c.e 63) w (HB w)) :=
 (rbody_any c σ.r.length).2.1 63 1 (by omega) σ hr (fun _ => ⟨rfl, Nat.le_refl _⟩) w hC hP

end Go.Proofs.YtggnfanphcaamaaGreatDoor


namespace Go.Proofs.YtggnfanphcaamaaGreatDoor
open Go.RowKit Sx LexS ParS _root_.Go.Proofs.Tryz
theorem holds_thr {base : Nat} {w : World} {oa : Option Addr} {cap : Nat} {es : List Th} {S : List Nat} (h : ThR 60 56 52 50 w oa cap es S) : (Res.tree S fun w => ThR 60 56 52 50 w oa cap es S).holds base w := holds_of h h.lt (fun a b h hk => h.kept hk)
/-- a program's value, its threads new -/
def HTs (sh lk : List Dc) (os ol : Option Addr) (cs cl : Nat) (w : World) (l : List Th) (v : Value) (w' : World) : Prop := ∃ ot ct Sq, v = .agg (pgC ⟨sh, lk, l⟩ os ol ot cs cl ct).toArray ∧ ThR 60 56 52 50 w' ot ct l Sq ∧ Nw w.heap.size Sq

set_option maxHeartbeats 2000000 in
theorem rthreads_any (n : Nat) (sh lk : List Dc) (os ol : Option Addr) (cs cl : Nat) (c : RCtx) (σ : RS) (hr : σ.r <:+ c.ts) (w : World) (hC : RCok c w) (hP : RAt c σ w) (hn : σ.r.length < n) : Ret Tryz.prog 34 [.pointer (some ⟨c.rb, 0, none⟩), .agg (pgC ⟨sh, lk, []⟩ os ol none cs cl 0).toArray] w (RRes c σ (thrAll c.e n) w (HTs sh lk os ol cs cl w)) := by
 refine ret_of [_, _] func34 rfl ntmps34 rfl ?_
 obtain ⟨w0, rfl⟩ : ∃ w0, w0 = w := ⟨_, rfl⟩
 have hP' := hP
 dsimp only [RAt, rcell] at hP
 have st := St.of1 [c.rb] hP
 have h20 := hC.len
 have hl := suf_len hr
 replace st := St.pushR (r := .tree [] (fun w => ThSs 60 56 52 w [] [] [])) st (Chg.refl _ _) (holds_thss (by simp [ThSs])) (by simp [Res.at?])
 replace st := st.ownNil 50 4
 refine sr ?_
 refine vc_e (e_bx (l := [_, _, _]) st rfl rfl rfl rfl ?_)
 intro b3 w hb3 st
 refine vc_e (e_al (l := [_, _, _]) st rfl rfl zeroValue25 rfl ?_)
 intro b4 w hb4 st
 refine et (vk3 0 3 4 (vc_seq (vc_block ?_)))
 refine vc_loop (w0 := w0) (M := [c.rb]) (fun (y : (List Th × RS × Nat × Option Addr × Nat × List Value × List Nat)) => [(0, .pointer (some ⟨c.rb, 0, none⟩)), (3, .pointer (some ⟨b3, 0, none⟩)), (4, .pointer (some ⟨b4, 0, none⟩))]) (fun (y : (List Th × RS × Nat × Option Addr × Nat × List Value × List Nat)) => [.blk b3 (.cells [.slice os sh.length cs, .slice ol lk.length cl, .slice y.2.2.2.1 y.1.length y.2.2.2.2.1].toArray 25 (0, 0)), .own (.slice y.2.2.2.1 y.1.length y.2.2.2.2.1) 50 4 y.1.length y.2.2.2.2.2.1, .tree y.2.2.2.2.2.2 (fun w => ThSs 60 56 52 w y.1 y.2.2.2.2.2.1 y.2.2.2.2.2.2), .blk b4 (.cells [.slice none 0 0, .slice none 0 0, .slice none 0 0].toArray 25 (0, 0)), .blk c.rb (.cells (rcell c y.2.1).toArray c.T (0, 0))]) (fun (y : (List Th × RS × Nat × Option Addr × Nat × List Value × List Nat)) _ => y.2.1.r <:+ σ.r ∧ (y.2.1.ok → y.1.length + y.2.1.r.length ≤ σ.r.length ∧ y.2.1.r.length < y.2.2.1) ∧ Nw w0.heap.size y.2.2.2.2.2.2 ∧ run (thrAll c.e n) σ = addL y.1 (run (thrAll c.e y.2.2.1) y.2.1)) (fun (y : (List Th × RS × Nat × Option Addr × Nat × List Value × List Nat)) => RS.mu y.2.1) ([], σ, n, none, 0, [], []) ⟨rfl, rfl, rfl, trivial⟩ (st.pick [1, 2, 3, 0, 4] rfl (by decide)) ⟨List.suffix_refl _, fun _ => ⟨by simp, hn⟩, Nw.nil, (addL_nil _).symm⟩ ?_
 clear st
 rintro ⟨acc, σ1, k, ot, ct, xs, Sq⟩ w ⟨hsf1, hl1, hSq, hG⟩ st
 dsimp only at hsf1 hl1 hSq hG st
 have hrσ1 := hsf1.trans hr
 have h40 := suf_len hrσ1
 refine vc_seq (vc_seq ?_)
 refine vc_draw Tryz.mixed [(0, true), (1, false), (2, true), (3, true), (4, true), (5, true), (6, true), (7, true), (8, true), (9, true), (10, true), (11, true), (12, true), (13, true)] (fun w => St _ _ [.blk c.rb (.cells (rcell c σ1).toArray c.T (0, 0))] w) st.dr (by kernel_rfl) (by repeat (first | exact okQ_noPan | exact okQ_body | exact okQ_bodyS | refine okQ_then ?_ | refine okQ_block ?_)) rfl (by kernel_rfl) ?_
 intro w cd; replace st := st.call0 cd; clear cd
 have hS : St _ _ [.blk c.rb (.cells (rcell c σ1).toArray c.T (0, 0))] w := st.dr
 refine pm hS ?_
 refine vp_do rfl (e_call [_] rfl rfl call16 rfl (rok_any c σ1 hrσ1 _ (hC.k1 st.chg) (by exact st.res (i := 4) rfl)) ?_)
 rintro _ w ⟨rfl, cw⟩
 replace st := st.call0 cw
 refine vp_next st.dr ?_; intro hS
 refine vp_part rfl rfl rfl hS rfl ?_ ?_
 ·intro hg10
  try simp only [dn] at hg10
  have ho : σ1.ok := by simpa using hg10
  obtain ⟨hl2, hk1⟩ := hl1 ho
  obtain ⟨k, rfl⟩ : ∃ j, k = j + 1 := ⟨k - 1, by omega⟩
  refine pm hS ?_
  refine pnk hS ?_
  refine pfz hS 1 underlying47 sizeOf3 ?_
  refine pld hS 0 isAgg3 ?_
  refine pm hS ?_
  refine pnk hS ?_
  refine pf0 hS underlying47 sizeOf45 ?_
  refine pld hS 0 isAgg45 ?_
  refine vp_take rfl rfl rfl hS (fun w st => y_lensl rfl underlying45) ?_
  refine vp_take rfl rfl rfl hS (fun w st => y_lss rfl rfl) ?_
  refine vp_take rfl rfl rfl hS (fun w st => y_pickt rfl rfl) ?_
  refine vp_end (vq_then (vk4 0 3 4 21 ?_))
  refine vif ?_ ?_
  ·intro hc21
   try simp only [dn] at hc21
   have hne : σ1.r ≠ [] := by intro h0; rw [h0] at hc21; simp at hc21
   refine kt (vk3 0 3 4 (vc_block (sr ?_)))
   refine ym ?_
   refine vc_e (e_call [_, _] rfl rfl call52 rfl (rwant_any c wThread σ1 hrσ1 _ (hC.k1 st.chg) (by exact st.res (i := 4) rfl)) ?_)
   rintro _ w ⟨rfl, hP1, cw⟩
   replace st := St.prs (b := c.rb) st 4 rfl cw (.inl (.head _)) hP1
   dsimp only [setNth] at st
   obtain ⟨σ2, hσ2⟩ : ∃ x, wantR c.e wThread σ1 = x := ⟨_, rfl⟩
   rw [hσ2] at st
   have hsfσ2 : σ2.r <:+ σ1.r := by rw [← hσ2]; exact wantR_suf
   have hrσ2 := hsfσ2.trans hrσ1
   have hlσ2 := suf_len hsfσ2
   refine et (vk3 0 3 4 (sr ?_))
   refine ym ?_
   refine vc_e (e_call [_] rfl rfl call49 rfl (rname_any c σ2 hrσ2 _ (hC.k1 st.chg) (by exact st.res (i := 4) rfl)) ?_)
   rintro _ w ⟨rfl, hP1, cw⟩
   replace st := St.prs (b := c.rb) st 4 rfl cw (.inl (.head _)) hP1
   dsimp only [setNth] at st
   obtain ⟨σ3, hσ3⟩ : ∃ x, nameR c.e σ2 = x := ⟨_, rfl⟩
   rw [hσ3] at st
   have hsfσ3 : σ3.r <:+ σ2.r := by rw [← hσ3]; exact nameR_suf
   have hrσ3 := hsfσ3.trans hrσ2
   have hlσ3 := suf_len hsfσ3
   refine ym ?_
   iterate 2 refine vy (y_ext rfl rfl) ?_
   iterate 2 refine ya ?_
   refine et (vk5 0 3 4 5 6 (sr ?_))
   iterate 2 refine ym ?_
   refine vy (y_bld (.agg #[_, _, _, _]) [(0, _), (3, _)] rfl (fun w => by simp [Instr.build, go_sem] <;> repeat' constructor)) ?_
   refine vc_e (e_al (l := [_, _, _, _]) st rfl rfl zeroValue50 rfl ?_)
   intro b7 w hb7 st
   refine vc_e (e_sts (vs := [_, _, _, _]) st 0 rfl rfl rfl rfl rfl sizeOf50 rfl rfl (by (right; assumption)) ?_)
   intro w st; dsimp only [setNth, wr] at st
   refine et (vk4 0 3 4 7 (sr ?_))
   replace st := st.ownNil 52 3
   refine ym ?_
   refine vc_e (e_call [_, _] rfl rfl call52 rfl (rwant_any c [123] σ3 hrσ3 _ (hC.k1 st.chg) (by exact st.res (i := 6) rfl)) ?_)
   rintro _ w ⟨rfl, hP1, cw⟩
   replace st := St.prs (b := c.rb) st 6 rfl cw (.inl (.head _)) hP1
   dsimp only [setNth] at st
   obtain ⟨σ4, hσ4⟩ : ∃ x, wantR c.e [123] σ3 = x := ⟨_, rfl⟩
   rw [hσ4] at st
   have hsfσ4 : σ4.r <:+ σ3.r := by rw [← hσ4]; exact wantR_suf
   have hrσ4 := hsfσ4.trans hrσ3
   have hlσ4 := suf_len hsfσ4
   refine et (vk4 0 3 4 7 (vc_seq (vc_block ?_)))
   refine vc_loop (w0 := w0) (M := [c.rb]) (fun (z : (List Dc × RS × Nat × Option Addr × Nat)) => [(0, .pointer (some ⟨c.rb, 0, none⟩)), (3, .pointer (some ⟨b3, 0, none⟩)), (4, .pointer (some ⟨b4, 0, none⟩)), (7, .pointer (some ⟨b7, 0, none⟩))]) (fun (z : (List Dc × RS × Nat × Option Addr × Nat)) => [.blk b7 (.cells [str (nameT σ2), .slice z.2.2.2.1 z.1.length z.2.2.2.2, .slice none 0 0, .int .i64 (nameA σ2 : Int)].toArray 50 (0, 0)), .own (.slice z.2.2.2.1 z.1.length z.2.2.2.2) 52 3 z.1.length (z.1.flatMap dcL), .blk b3 (.cells [.slice os sh.length cs, .slice ol lk.length cl, .slice ot acc.length ct].toArray 25 (0, 0)), .own (.slice ot acc.length ct) 50 4 acc.length xs, .tree Sq (fun w => ThSs 60 56 52 w acc xs Sq), .blk b4 (.cells [.slice none 0 0, .slice none 0 0, .slice none 0 0].toArray 25 (0, 0)), .blk c.rb (.cells (rcell c z.2.1).toArray c.T (0, 0))]) (fun (z : (List Dc × RS × Nat × Option Addr × Nat)) _ => z.2.1.r <:+ σ4.r ∧ z.1.length ≤ 2097154 ∧ (z.2.1.ok → z.1.length + z.2.1.r.length ≤ σ4.r.length ∧ z.2.1.r.length < z.2.2.1) ∧ run (fun r => localsP c.e (r.length + 1) r) σ4 = addL z.1 (run (localsP c.e z.2.2.1) z.2.1)) (fun (z : (List Dc × RS × Nat × Option Addr × Nat)) => RS.mu z.2.1) ([], σ4, σ4.r.length + 1, none, 0) ⟨rfl, rfl, rfl, rfl, trivial⟩ (st.pick [1, 0, 2, 3, 4, 5, 6] rfl (by decide)) ⟨List.suffix_refl _, by simp, fun _ => ⟨by simp, by simp⟩, (addL_nil _).symm⟩ ?_
   clear st
   rintro ⟨lo, σ5, j, o, cc⟩ w ⟨hsfσ5, hlo, hl5, hG5⟩ st
   dsimp only at hsfσ5 hlo hl5 hG5 st
   have hrσ5 := hsfσ5.trans hrσ4
   have h45 := suf_len hrσ5
   refine vc_seq (sr ?_)
   refine ym ?_
   refine vc_e (e_call [_, _] rfl rfl call31 rfl (rtake_any c wLocal σ5 hrσ5 _ (hC.k1 st.chg) (by exact st.res (i := 6) rfl)) ?_)
   rintro _ w ⟨rfl, hP1, cw⟩
   replace st := St.prs (b := c.rb) st 6 rfl cw (.inl (.head _)) hP1
   dsimp only [setNth] at st
   refine et (vk5 0 3 4 7 35 ?_)
   refine vif ?_ ?_
   ·intro hc35
    try simp only [dn] at hc35
    have hT : takeB wLocal σ5 = true := hc35
    have ho5 := (takeB_pos hT).1
    obtain ⟨hl6, hj1⟩ := hl5 ho5
    obtain ⟨j, rfl⟩ : ∃ i, j = i + 1 := ⟨j - 1, by omega⟩
    have htl := tail_lt (isT_ne (takeB_pos hT).2)
    rw [takeR_pos hT] at st
    obtain ⟨σ6, hσ6⟩ : ∃ x, (RS.mk σ5.r.tail σ5.f) = x := ⟨_, rfl⟩
    rw [hσ6] at st
    have hsfσ6 : σ6.r <:+ σ5.r := by rw [← hσ6]; exact List.tail_suffix _
    have hrσ6 := hsfσ6.trans hrσ5
    have hl6b : σ6.r.length < σ5.r.length := by rw [← hσ6]; exact htl
    refine kt (vk4 0 3 4 7 (vc_block ?_))
    refine vk_draw Tryz.mixed [(0, true), (2, true), (1, true), (3, false), (4, false), (5, true), (6, false)] 6 (fun w => St _ _ [.blk b7 (.cells [str (nameT σ2), .slice o lo.length cc, .slice none 0 0, .int .i64 (nameA σ2 : Int)].toArray 50 (0, 0))] w) st.dr (by kernel_rfl) (by repeat (first | exact okQ_noPan | exact okQ_body | exact okQ_bodyS | refine okQ_then ?_ | refine okQ_block ?_)) rfl (by kernel_rfl) rfl ?_
    intro w cd; replace st := st.call0 cd; clear cd
    have hS : St _ _ [.blk b7 (.cells [str (nameT σ2), .slice o lo.length cc, .slice none 0 0, .int .i64 (nameA σ2 : Int)].toArray 50 (0, 0))] w := st.dr
    refine vk_takeU rfl rfl rfl rfl (fun _ => hS) (fun w => (by exact y_faz (k := 1) rfl underlying50 rfl rfl sizeOf22 rfl)) ?_
    refine km hS ?_
    refine vk_take rfl rfl rfl rfl hS (fun w st => y_ld st 0 rfl isAgg22 rfl rfl) ?_
    refine vk_do rfl rfl (e_call [_] rfl rfl call33 rfl (rnames_any (σ5.r.length + 1) c σ6 hrσ6 _ (hC.k1 st.chg) (by exact st.res (i := 6) rfl) (by omega)) ?_)
    rintro _ w ⟨l, σ7, hD7, hsfσ7, hP1, cw, oD, cD, SD, rfl, hQ, hN, hll⟩
    have hNSD := hN.le st.chg.size
    replace st := St.prsT (b := c.rb) st 6 rfl cw (.inl (.head _)) hP1 (holds_dc hQ) hN.2
    dsimp only [setNth] at st
    have hrσ7 := hsfσ7.trans hrσ6
    have hl7 := suf_len hsfσ7
    rw [← hσ6] at hD7
    have hlen7 : σ7.ok → l.length + σ7.r.length ≤ σ6.r.length := fun h => by
     have := listP_len c.e _ declP_len _ _ _ _ (hD7.ok_inv h).2
     rw [← hσ6]; exact this
    refine vk_next st.dr ?_; intro hS
    refine vk_do rfl rfl (e_appr (bytes := 32) (len' := (lo ++ l).length) (ys := (lo ++ l).flatMap dcL) st 2 rfl rfl rfl rfl rfl (dcr_rd (st.res (i := 0) rfl).1) underlying22 Tryz.info52 rfl rfl rfl rfl rfl (dcs_len l) (dcs_one l) (by unfold maxLen; omega) (by omega) (by simp) (by simp) ?_)
    intro oaQ capQ w st; dsimp only [setNth] at st
    refine vk_next st.dr ?_; intro hS
    refine vk_takeU rfl rfl rfl rfl (fun _ => hS) (fun w => (by exact y_faz (k := 1) rfl underlying50 rfl rfl sizeOf22 rfl)) ?_
    refine vk_do rfl rfl (e_st st 1 rfl rfl rfl rfl sizeOf22 rfl rfl (by (right; assumption)) ?_)
    intro w st; dsimp only [setNth, wr] at st
    refine vk_late ?_
    refine vk_end ?_
    refine vq_block ?_
    refine vq_again (lo ++ l, σ7, j, oaQ, capQ)  ⟨rfl, rfl, rfl, rfl, trivial⟩ (st.pick [1, 2, 3, 4, 5, 6, 7] rfl (by decide)) ?_ ?_
    ·exact ⟨(hsfσ7.trans hsfσ6).trans hsfσ5, by simp; omega, fun h => ⟨by have := hlen7 h; simp; omega, by dsimp only; omega⟩, hG5.trans (locals_more hT hD7)⟩
    unfold RS.mu; dsimp only; rw [if_pos ho5]; split <;> omega
   intro hc35
   try simp only [dn] at hc35
   have hF : takeB wLocal σ5 = false := hc35
   rw [takeR_neg hF] at st
   have hlocs : Done (run (fun r => localsP c.e (r.length + 1) r) σ4) lo σ5 := by
    rw [hG5]
    by_cases ho5 : σ5.ok
    ·obtain ⟨i, rfl⟩ : ∃ i, j = i + 1 := ⟨j - 1, by have := (hl5 ho5).2; omega⟩
     exact (locals_end hF).add_nil
    ·rw [run_bad ho5]; exact ⟨rfl, ho5⟩
   refine vc_exit (vq_then_exit (vq_then_exit (vq_block_exit (vq_then (vk4 0 3 4 7 (sr ?_))))))
   refine ym ?_
   refine vc_e (e_call [_, _] rfl rfl call53 rfl (rstmts_any c σ5 hrσ5 _ (hC.k1 st.chg) (by exact st.res (i := 6) rfl)) ?_)
   rintro _ w ⟨b, σ8, hD8, hsfσ8, hP1, cw, ob, cb, Sb, rfl, hQ, hN⟩
   have hNSb := hN.le st.chg.size
   replace st := St.prsT (b := c.rb) st 6 rfl cw (.inl (.head _)) hP1 (holds_sm hQ) hN.2
   dsimp only [setNth] at st
   have hrσ8 := hsfσ8.trans hrσ5
   have hthr := thread_done (by rw [← hσ3] at hσ4; exact hσ4.symm) hlocs hD8
   have hl8 : σ8.ok → σ8.r.length < σ1.r.length := fun h => by
    have h1 := thread_len (hthr.ok_inv h).2
    omega
   refine yfz 2 underlying50 sizeOf48 ?_
   refine vc_e (e_st st 1 rfl rfl rfl rfl sizeOf48 rfl rfl (by (right; assumption)) ?_)
   intro w st; dsimp only [setNth, wr] at st
   refine et (vk4 0 3 4 7 (vc_region ?_))
   refine yfz 2 underlying25 sizeOf23 ?_
   refine yl st 3 isAgg23 ?_
   refine yla st 1 [_, _, _, _] isAgg50 sizeOf50 ?_
   refine vc_e (e_bs1 (l := [_, _, _, _]) st rfl rfl rfl rfl underlying23 sizeOf50 rfl rfl rfl zeroValue50 ?_)
   intro b48 w hb48 st
   refine vc_e (e_app (bytes := 72) st 5 0 rfl rfl rfl rfl rfl rfl underlying23 Tryz.info50 rfl rfl rfl rfl rfl (by simp) rfl rfl (by unfold maxLen; omega) (by omega) ?_)
   intro oaQ capQ w st; dsimp only [setNth] at st
   have hown := st.ownNw (i := 3) rfl
   have hT1 : ThS 60 56 52 w ⟨nameT σ2, lo, b, (nameA σ2 : Int)⟩ (thC ⟨nameT σ2, lo, b, (nameA σ2 : Int)⟩ o ob cc cb) (obk o ++ Sb) := ⟨o, cc, ob, cb, obk o, Sb, rfl, ⟨hown.1, rfl⟩, (st.res (i := 1) rfl).1, rfl⟩
   have hNt := hown.2.app hNSb (fun b hb => st.ne (i := 3) (j := 1) (by decide) rfl rfl b (by simpa [Res.at?, obk_own] using hb))
   have hdis : ∀ b ∈ Sq, b ∉ obk o ++ Sb := fun b hb hb' => (List.mem_append.1 hb').elim (fun h => st.ne (i := 6) (j := 3) (by decide) rfl rfl b hb (by simpa [Res.at?, obk_own] using h)) (fun h => st.ne (i := 6) (j := 1) (by decide) rfl rfl b hb h)
   have hT2 := ThSs.snoc (st.res (i := 6) rfl).1 hT1
   have hN2 := hSq.app hNt hdis
   replace st := ((st.pick [6, 3, 1, 4, 5, 7, 8] rfl (by decide)).joinN 3 (q := .tree (Sq ++ (obk o ++ Sb)) fun w => ThSs 60 56 52 w (acc ++ [⟨nameT σ2, lo, b, (nameA σ2 : Int)⟩]) (xs ++ thC ⟨nameT σ2, lo, b, (nameA σ2 : Int)⟩ o ob cc cb) (Sq ++ (obk o ++ Sb))) (fun k hk => by
       rcases List.mem_append.1 hk with h | h
       · exact ⟨_, .head _, h⟩
       · rcases List.mem_append.1 h with h | h
         · exact ⟨_, .tail _ (.head _), by simpa [Res.at?, obk_own] using h⟩
         · exact ⟨_, .tail _ (.tail _ (.head _)), h⟩) (holds_thss hT2)).pick [1, 2, 0, 3, 4] rfl (by decide)
   refine yfz 2 underlying25 sizeOf23 ?_
   refine vc_e (e_st st 0 rfl rfl rfl rfl sizeOf23 rfl rfl (by (right; assumption)) ?_)
   intro w st; dsimp only [setNth, wr] at st
   refine vc_end (vq_block ?_)
   refine vq_again (acc ++ [⟨nameT σ2, lo, b, (nameA σ2 : Int)⟩], σ8, k, oaQ, capQ, xs ++ thC ⟨nameT σ2, lo, b, (nameA σ2 : Int)⟩ o ob cc cb, Sq ++ (obk o ++ Sb))  ⟨rfl, rfl, rfl, trivial⟩ (by simpa using st) ?_ ?_
   ·exact ⟨hsfσ8.trans (hsfσ5.trans (hsfσ4.trans (hsfσ3.trans (hsfσ2.trans hsf1)))), fun h => ⟨by have := hl8 h; simp; omega, by have := hl8 h; dsimp only; omega⟩, hN2, hG.trans (thr_more ho hne (by rw [hσ2]; exact hthr))⟩
   unfold RS.mu; dsimp only; rw [if_pos ho]; split
   ·have := hl8 (by assumption); omega
   ·omega
  intro hc21
  try simp only [dn] at hc21
  have hnil : σ1.r = [] := List.eq_nil_of_length_eq_zero (by omega)
  refine vc_exit (vq_then_exit (vq_then_exit (vq_block_exit (vq_then (vk2 3 4 (sr ?_))))))
  refine yla st 0 [_, _, _] isAgg25 sizeOf25 ?_
  refine vc_e (e_sts (vs := [_, _, _]) st 3 rfl rfl rfl rfl rfl sizeOf25 rfl rfl (by (right; assumption)) ?_)
  intro w st; dsimp only [setNth, wr] at st
  refine et (vk1 4 (vc_ret ?_))
  refine vq_ret1 st (.inl rfl) results34 (by exact .cell 3 rfl rfl isAgg25 sizeOf25) ?_
  refine ⟨_, rfl, ?_⟩
  have hown := st.ownNw (i := 1) rfl
  exact ⟨acc, σ1, by rw [hG]; exact (thr_end hnil).add_nil, hsf1, (by exact st.res (i := 4) rfl), st.chg, ot, ct, obk ot ++ Sq, rfl, ⟨xs, Sq, hown.1, rfl, (st.res (i := 2) rfl).1⟩, hown.2.app hSq (fun b hb => st.ne (i := 1) (j := 2) (by decide) rfl rfl b (by simpa [Res.at?, obk_own] using hb))⟩
 intro hg10
 try simp only [dn] at hg10
 have ho : ¬ σ1.ok := by simpa using hg10
 iterate 10 refine vp_skip rfl rfl rfl hS ?_
 refine vp_take rfl rfl rfl hS (fun w st => y_pickf rfl rfl) ?_
 refine vp_end (vq_then (vk4 0 3 4 21 ?_))
 refine vc_iff rfl ?_
 refine vc_exit (vq_then_exit (vq_then_exit (vq_block_exit (vq_then (vk2 3 4 (sr ?_))))))
 refine yla st 0 [_, _, _] isAgg25 sizeOf25 ?_
 refine vc_e (e_sts (vs := [_, _, _]) st 3 rfl rfl rfl rfl rfl sizeOf25 rfl rfl (by (right; assumption)) ?_)
 intro w st; dsimp only [setNth, wr] at st
 refine et (vk1 4 (vc_ret ?_))
 refine vq_ret1 st (.inl rfl) results34 (by exact .cell 3 rfl rfl isAgg25 sizeOf25) ?_
 refine ⟨_, rfl, ?_⟩
 have hown := st.ownNw (i := 1) rfl
 exact ⟨acc, σ1, by rw [hG, run_bad ho]; exact ⟨rfl, ho⟩, hsf1, (by exact st.res (i := 4) rfl), st.chg, ot, ct, obk ot ++ Sq, rfl, ⟨xs, Sq, hown.1, rfl, (st.res (i := 2) rfl).1⟩, hown.2.app hSq (fun b hb => st.ne (i := 1) (j := 2) (by decide) rfl rfl b (by simpa [Res.at?, obk_own] using hb))⟩
set_option maxHeartbeats 2000000 in
theorem rprog_any (n : Nat) (c : RCtx) (σ : RS) (hr : σ.r <:+ c.ts) (w : World) (hC : RCok c w) (hP : RAt c σ w) (hn : σ.r.length < n) : Ret Tryz.prog 15 [.pointer (some ⟨c.rb, 0, none⟩)] w (RRes c σ (progR c.e n) w (HP w)) := by
 refine ret_of [_] func15 rfl ntmps15 rfl ?_
 obtain ⟨w0, rfl⟩ : ∃ w0, w0 = w := ⟨_, rfl⟩
 have hP' := hP
 dsimp only [RAt, rcell] at hP
 have st := St.of1 [c.rb] hP
 have h20 := hC.len
 have hl := suf_len hr
 replace st := (st.ownNil 52 3).ownNil 52 3
 refine sr ?_
 refine vc_e (e_al (l := [_, _, _]) st rfl rfl zeroValue25 rfl ?_)
 intro b2 w hb2 st
 refine et (vk2 0 2 (sr ?_))
 refine vy (y_bld (.agg #[_, _, _]) [] rfl (fun w => by simp [Instr.build, go_sem] <;> repeat' constructor)) ?_
 refine vc_e (e_al (l := [_, _, _]) st rfl rfl zeroValue25 rfl ?_)
 intro b3 w hb3 st
 refine vc_e (e_sts (vs := [_, _, _]) st 0 rfl rfl rfl rfl rfl sizeOf25 rfl rfl (by (right; assumption)) ?_)
 intro w st
 refine et (vk3 0 2 3 (vc_seq (vc_block ?_)))
 refine vc_loop (w0 := w0) (M := [c.rb]) (fun (y : (List Dc × List Dc × RS × Nat × Option Addr × Nat × Option Addr × Nat)) => [(0, .pointer (some ⟨c.rb, 0, none⟩)), (2, .pointer (some ⟨b2, 0, none⟩)), (3, .pointer (some ⟨b3, 0, none⟩))]) (fun (y : (List Dc × List Dc × RS × Nat × Option Addr × Nat × Option Addr × Nat)) => [.blk b3 (.cells [.slice y.2.2.2.2.1 y.1.length y.2.2.2.2.2.1, .slice y.2.2.2.2.2.2.1 y.2.1.length y.2.2.2.2.2.2.2, .slice none 0 0].toArray 25 (0, 0)), .own (.slice y.2.2.2.2.1 y.1.length y.2.2.2.2.2.1) 52 3 y.1.length (y.1.flatMap dcL), .own (.slice y.2.2.2.2.2.2.1 y.2.1.length y.2.2.2.2.2.2.2) 52 3 y.2.1.length (y.2.1.flatMap dcL), .blk b2 (.cells [.slice none 0 0, .slice none 0 0, .slice none 0 0].toArray 25 (0, 0)), .blk c.rb (.cells (rcell c y.2.2.1).toArray c.T (0, 0))]) (fun (y : (List Dc × List Dc × RS × Nat × Option Addr × Nat × Option Addr × Nat)) _ => y.2.2.1.r <:+ σ.r ∧ (y.2.2.1.ok → y.1.length + y.2.1.length + y.2.2.1.r.length ≤ σ.r.length ∧ y.2.2.1.r.length < y.2.2.2.1) ∧ run (progR c.e n) σ = addG y.1 y.2.1 (run (progR c.e y.2.2.2.1) y.2.2.1)) (fun (y : (List Dc × List Dc × RS × Nat × Option Addr × Nat × Option Addr × Nat)) => y.2.2.1.r.length) ([], [], σ, n, none, 0, none, 0) ⟨rfl, rfl, rfl, trivial⟩ (st.pick [0, 2, 3, 1, 4] rfl (by decide)) ⟨List.suffix_refl _, fun _ => ⟨by simp, hn⟩, (addG_nil _).symm⟩ ?_
 clear st
 rintro ⟨sh, lk, σ1, k, os, cs, ol, cl⟩ w ⟨hsf1, hl1, hG⟩ st
 dsimp only at hsf1 hl1 hG st
 have hrσ1 := hsf1.trans hr
 have h40 := suf_len hrσ1
 refine vc_seq (sr ?_)
 refine ym ?_
 refine vc_e (e_call [_] rfl rfl call16 rfl (rok_any c σ1 hrσ1 _ (hC.k1 st.chg) (by exact st.res (i := 4) rfl)) ?_)
 rintro _ w ⟨rfl, cw⟩
 replace st := st.call0 cw
 refine et (vk4 0 2 3 6 ?_)
 refine vif ?_ ?_
 ·intro hc6
  have ho : σ1.ok := by simpa using hc6
  obtain ⟨hl2, hk1⟩ := hl1 ho
  obtain ⟨k, rfl⟩ : ∃ j, k = j + 1 := ⟨k - 1, by omega⟩
  refine kt (vk3 0 2 3 (vc_block (vc_block (sr ?_))))
  refine ym ?_
  refine vc_e (e_call [_, _] rfl rfl call31 rfl (rtake_any c wShared σ1 hrσ1 _ (hC.k1 st.chg) (by exact st.res (i := 4) rfl)) ?_)
  rintro _ w ⟨rfl, hP1, cw⟩
  replace st := St.prs (b := c.rb) st 4 rfl cw (.inl (.head _)) hP1
  refine ya ?_
  refine et (vk4 0 2 3 10 ?_)
  refine vif ?_ ?_
  ·intro hc10
   have hT1 : takeB wShared σ1 = true := hc10
   have htl := tail_lt (isT_ne (takeB_pos hT1).2)
   rw [takeR_pos hT1] at st
   obtain ⟨σ6, hσ6⟩ : ∃ x, (RS.mk σ1.r.tail σ1.f) = x := ⟨_, rfl⟩
   rw [hσ6] at st
   have hsfσ6 : σ6.r <:+ σ1.r := by rw [← hσ6]; exact List.tail_suffix _
   have hrσ6 := hsfσ6.trans hrσ1
   have hl6 : σ6.r.length < σ1.r.length := by rw [← hσ6]; exact htl
   refine vk_draw Tryz.mixed [(0, true), (2, true), (1, true), (3, false), (4, false), (5, true), (6, false)] 6 (fun w => St _ _ [.blk b3 (.cells [.slice os sh.length cs, .slice ol lk.length cl, .slice none 0 0].toArray 25 (0, 0))] w) st.dr (by kernel_rfl) (by repeat (first | exact okQ_noPan | exact okQ_body | exact okQ_bodyS | refine okQ_then ?_ | refine okQ_block ?_)) rfl (by kernel_rfl) rfl ?_
   intro w cd; replace st := st.call0 cd; clear cd
   have hS : St _ _ [.blk b3 (.cells [.slice os sh.length cs, .slice ol lk.length cl, .slice none 0 0].toArray 25 (0, 0))] w := st.dr
   refine vk_takeU rfl rfl rfl rfl (fun _ => hS) (fun w => y_fa0 rfl underlying25 rfl rfl sizeOf22 rfl) ?_
   refine km hS ?_
   refine vk_take rfl rfl rfl rfl hS (fun w st => y_ld st 0 rfl isAgg22 rfl rfl) ?_
   refine vk_do rfl rfl (e_call [_] rfl rfl call32 rfl (rshared_any (σ1.r.length + 1) c σ6 hrσ6 _ (hC.k1 st.chg) (by exact st.res (i := 4) rfl) (by omega)) ?_)
   rintro _ w ⟨l, σ7, hD7, hsfσ7, hP1, cw, oD, cD, SD, rfl, hQ, hN, hll⟩
   have hNSD := hN.le st.chg.size
   replace st := St.prsT (b := c.rb) st 4 rfl cw (.inl (.head _)) hP1 (holds_dc hQ) hN.2
   have hrσ7 := hsfσ7.trans hrσ6
   have hl7 := suf_len hsfσ7
   rw [← hσ6] at hD7
   have hlen7 : σ7.ok → l.length + σ7.r.length ≤ σ6.r.length := fun h => by
    have := listP_len c.e _ initP_len _ _ _ _ (hD7.ok_inv h).2
    rw [← hσ6]; exact this
   refine vk_next st.dr ?_; intro hS
   refine vk_do rfl rfl (e_appr (bytes := 32) (len' := (sh ++ l).length) (ys := (sh ++ l).flatMap dcL) st 2 rfl rfl rfl rfl rfl (dcr_rd (st.res (i := 0) rfl).1) underlying22 Tryz.info52 rfl rfl rfl rfl rfl (dcs_len l) (dcs_one l) (by unfold maxLen; omega) (by omega) (by simp) (by simp) ?_)
   intro oaQ capQ w st
   refine vk_next st.dr ?_; intro hS
   refine vk_takeU rfl rfl rfl rfl (fun _ => hS) (fun w => y_fa0 rfl underlying25 rfl rfl sizeOf22 rfl) ?_
   refine vk_do rfl rfl (e_st st 1 rfl rfl rfl rfl sizeOf22 rfl rfl (by (right; assumption)) ?_)
   intro w st
   refine vk_late ?_
   refine vk_end ?_
   refine vq_block (vq_block ?_)
   refine vq_again (sh ++ l, lk, σ7, k, oaQ, capQ, ol, cl)  ⟨rfl, rfl, rfl, trivial⟩ (st.pick [1, 2, 3, 4, 5] rfl (by decide)) ?_ ?_
   ·exact ⟨(hsfσ7.trans hsfσ6).trans hsf1, fun h => ⟨by have := hlen7 h; simp; omega, by dsimp only; omega⟩, hG.trans (prog_sh hT1 hD7)⟩
   dsimp only; omega
  intro hc10
  have hF1 : takeB wShared σ1 = false := hc10
  rw [takeR_neg hF1] at st
  refine sr ?_
  refine ym ?_
  refine vc_e (e_call [_, _] rfl rfl call31 rfl (rtake_any c wLock σ1 hrσ1 _ (hC.k1 st.chg) (by exact st.res (i := 4) rfl)) ?_)
  rintro _ w ⟨rfl, hP1, cw⟩
  replace st := St.prs (b := c.rb) st 4 rfl cw (.inl (.head _)) hP1
  refine ya ?_
  refine et (vk4 0 2 3 19 ?_)
  refine vif ?_ ?_
  ·intro hc19
   have hT2 : takeB wLock σ1 = true := hc19
   have htl := tail_lt (isT_ne (takeB_pos hT2).2)
   rw [takeR_pos hT2] at st
   obtain ⟨σ6, hσ6⟩ : ∃ x, (RS.mk σ1.r.tail σ1.f) = x := ⟨_, rfl⟩
   rw [hσ6] at st
   have hsfσ6 : σ6.r <:+ σ1.r := by rw [← hσ6]; exact List.tail_suffix _
   have hrσ6 := hsfσ6.trans hrσ1
   have hl6 : σ6.r.length < σ1.r.length := by rw [← hσ6]; exact htl
   refine vk_draw Tryz.mixed [(0, true), (2, true), (1, true), (3, false), (4, false), (5, true), (6, false)] 6 (fun w => St _ _ [.blk b3 (.cells [.slice os sh.length cs, .slice ol lk.length cl, .slice none 0 0].toArray 25 (0, 0))] w) st.dr (by kernel_rfl) (by repeat (first | exact okQ_noPan | exact okQ_body | exact okQ_bodyS | refine okQ_then ?_ | refine okQ_block ?_)) rfl (by kernel_rfl) rfl ?_
   intro w cd; replace st := st.call0 cd; clear cd
   have hS : St _ _ [.blk b3 (.cells [.slice os sh.length cs, .slice ol lk.length cl, .slice none 0 0].toArray 25 (0, 0))] w := st.dr
   refine vk_takeU rfl rfl rfl rfl (fun _ => hS) (fun w => (by exact y_faz (k := 1) rfl underlying25 rfl rfl sizeOf22 rfl)) ?_
   refine km hS ?_
   refine vk_take rfl rfl rfl rfl hS (fun w st => y_ld st 0 rfl isAgg22 rfl rfl) ?_
   refine vk_do rfl rfl (e_call [_] rfl rfl call33 rfl (rnames_any (σ1.r.length + 1) c σ6 hrσ6 _ (hC.k1 st.chg) (by exact st.res (i := 4) rfl) (by omega)) ?_)
   rintro _ w ⟨l, σ7, hD7, hsfσ7, hP1, cw, oD, cD, SD, rfl, hQ, hN, hll⟩
   have hNSD := hN.le st.chg.size
   replace st := St.prsT (b := c.rb) st 4 rfl cw (.inl (.head _)) hP1 (holds_dc hQ) hN.2
   have hrσ7 := hsfσ7.trans hrσ6
   have hl7 := suf_len hsfσ7
   rw [← hσ6] at hD7
   have hlen7 : σ7.ok → l.length + σ7.r.length ≤ σ6.r.length := fun h => by
    have := listP_len c.e _ declP_len _ _ _ _ (hD7.ok_inv h).2
    rw [← hσ6]; exact this
   refine vk_next st.dr ?_; intro hS
   refine vk_do rfl rfl (e_appr (bytes := 32) (len' := (lk ++ l).length) (ys := (lk ++ l).flatMap dcL) st 3 rfl rfl rfl rfl rfl (dcr_rd (st.res (i := 0) rfl).1) underlying22 Tryz.info52 rfl rfl rfl rfl rfl (dcs_len l) (dcs_one l) (by unfold maxLen; omega) (by omega) (by simp) (by simp) ?_)
   intro oaQ capQ w st
   refine vk_next st.dr ?_; intro hS
   refine vk_takeU rfl rfl rfl rfl (fun _ => hS) (fun w => (by exact y_faz (k := 1) rfl underlying25 rfl rfl sizeOf22 rfl)) ?_
   refine vk_do rfl rfl (e_st st 1 rfl rfl rfl rfl sizeOf22 rfl rfl (by (right; assumption)) ?_)
   intro w st
   refine vk_late ?_
   refine vk_end ?_
   refine vq_block (vq_block ?_)
   refine vq_again (sh, lk ++ l, σ7, k, os, cs, oaQ, capQ)  ⟨rfl, rfl, rfl, trivial⟩ (st.pick [1, 2, 3, 4, 5] rfl (by decide)) ?_ ?_
   ·exact ⟨(hsfσ7.trans hsfσ6).trans hsf1, fun h => ⟨by have := hlen7 h; simp; omega, by dsimp only; omega⟩, hG.trans (prog_lk hF1 hT2 hD7)⟩
   dsimp only; omega
  intro hc19
  have hF2 : takeB wLock σ1 = false := hc19
  rw [takeR_neg hF2] at st
  refine sr ?_
  refine ym ?_
  refine yla st 0 [_, _, _] isAgg25 sizeOf25 ?_
  refine vc_e (e_call [_, _] rfl rfl call34 rfl (rthreads_any (σ1.r.length + 1) sh lk os ol cs cl c σ1 hrσ1 _ (hC.k1 st.chg) (by exact st.res (i := 4) rfl) (by omega)) ?_)
  rintro _ w ⟨l, σ7, hD7, hsfσ7, hP1, cw, ot, ct, Sq, rfl, hQ, hN⟩
  have hNSq := hN.le st.chg.size
  replace st := St.prsT (b := c.rb) st 4 rfl cw (.inl (.head _)) hP1 (holds_thr hQ) hN.2
  refine vc_e (e_sts (vs := [_, _, _]) st 4 rfl rfl rfl rfl rfl sizeOf25 rfl rfl (by (right; assumption)) ?_)
  intro w st
  refine et (vk1 2 (vc_ret (vq_block_ret (vq_block_ret (vq_then_ret (vq_block_ret (vq_then_ret ?_)))))))
  refine vq_ret1 st (.inl rfl) results15 (by exact .cell 4 rfl rfl isAgg25 sizeOf25) ?_
  refine ⟨_, rfl, ?_⟩
  have o1 := st.ownNw (i := 2) rfl
  have o2 := st.ownNw (i := 3) rfl
  have d12 : ∀ k ∈ obk os, k ∉ obk ol := fun k hk hk' => st.ne (i := 2) (j := 3) (by decide) rfl rfl k (by simpa [Res.at?, obk_own] using hk) (by simpa [Res.at?, obk_own] using hk')
  have d14 : ∀ k ∈ obk os, k ∉ Sq := fun k hk => st.ne (i := 2) (j := 0) (by decide) rfl rfl k (by simpa [Res.at?, obk_own] using hk)
  have d24 : ∀ k ∈ obk ol, k ∉ Sq := fun k hk => st.ne (i := 3) (j := 0) (by decide) rfl rfl k (by simpa [Res.at?, obk_own] using hk)
  exact ⟨⟨sh, lk, l⟩, σ7, by rw [hG]; exact prog_th hF1 hF2 hD7, hsfσ7.trans hsf1, (by exact st.res (i := 5) rfl), st.chg, os, ol, ot, cs, cl, ct, obk os ++ (obk ol ++ Sq), rfl, ⟨os, cs, ol, cl, ot, ct, obk os, obk ol, Sq, rfl, ⟨o1.1, rfl⟩, ⟨o2.1, rfl⟩, (st.res (i := 0) rfl).1, rfl⟩,
    o1.2.app (o2.2.app hNSq d24) (fun b hb hb' => (List.mem_append.1 hb').elim (d12 b hb) (d14 b hb))⟩
 intro hc6
 have ho : ¬ σ1.ok := by simpa using hc6
 refine vc_exit (vq_then_exit (vq_then_exit (vq_block_exit (vq_then (vk2 2 3 (sr ?_))))))
 refine yla st 0 [_, _, _] isAgg25 sizeOf25 ?_
 refine vc_e (e_sts (vs := [_, _, _]) st 3 rfl rfl rfl rfl rfl sizeOf25 rfl rfl (by (right; assumption)) ?_)
 intro w st
 refine et (vk1 2 (vc_ret ?_))
 refine vq_ret1 st (.inl rfl) results15 (by exact .cell 3 rfl rfl isAgg25 sizeOf25) ?_
 refine ⟨_, rfl, ?_⟩
 have o1 := st.ownNw (i := 1) rfl
 have o2 := st.ownNw (i := 2) rfl
 have d12 : ∀ k ∈ obk os, k ∉ obk ol := fun k hk hk' => st.ne (i := 1) (j := 2) (by decide) rfl rfl k (by simpa [Res.at?, obk_own] using hk) (by simpa [Res.at?, obk_own] using hk')
 exact ⟨⟨sh, lk, []⟩, σ1, by rw [hG]; exact prog_bad ho _, hsf1, (by exact st.res (i := 4) rfl), st.chg, os, ol, none, cs, cl, 0, obk os ++ (obk ol ++ []), rfl, ⟨os, cs, ol, cl, none, 0, obk os, obk ol, [], rfl, ⟨o1.1, rfl⟩, ⟨o2.1, rfl⟩, ⟨[], [], World.ownsRow_nil _ _ _ _, rfl, rfl, rfl⟩, rfl⟩,
   by rw [List.append_nil]; exact o1.2.app o2.2 d12⟩
end Go.Proofs.YtggnfanphcaamaaGreatDoor


namespace Go.Proofs.YtggnfanphcaamaaGreatDoor
open Go.RowKit Sx LexS _root_.Go.Proofs.Tryz

set_option maxHeartbeats 1000000 in
theorem word_any (l : List UInt8) (w : World) : Ret Tryz.prog 71 [str l] w fun v w' => v = .bool (isWord l) ∧ w' = w := by
 refine ret_of [_] func71 rfl ntmps71 rfl ?_
 have st := St.init w []
 refine sr ?_
 refine ya ?_
 refine et (vk1 0 (vc_seq (sr ?_)))
 refine ym ?_
 refine et (vk1 3 (vc_block (vc_seq (sr ?_))))
 refine vy (y_eqs rfl rfl) ?_
 refine ya ?_
 refine et (vk2 3 4 ?_)
 refine vif ?_ ?_
 intro hc4
 try simp only [dn] at hc4
 refine kt (vk1 4 ?_)
 refine vc_ift rfl ?_
 refine sr ?_
 refine ya ?_
 refine et (vk1 2 (vc_ret (vq_block_ret (vq_then_ret ?_))))
 rotate_left
 focus
  intro hc4
  try simp only [dn] at hc4
  refine sr ?_
  refine vy (y_eqs rfl rfl) ?_
  refine ya ?_
  refine et (vk2 3 4 ?_)
  refine vif ?_ ?_
  intro hc4
  try simp only [dn] at hc4
  refine kt (vk1 4 ?_)
  refine vc_ift rfl ?_
  refine sr ?_
  refine ya ?_
  refine et (vk1 2 (vc_ret (vq_block_ret (vq_then_ret ?_))))
  rotate_left
  focus
   intro hc4
   try simp only [dn] at hc4
   refine sr ?_
   refine vy (y_eqs rfl rfl) ?_
   refine ya ?_
   refine et (vk2 3 4 ?_)
   refine vif ?_ ?_
   intro hc4
   try simp only [dn] at hc4
   refine kt (vk1 4 ?_)
   refine vc_ift rfl ?_
   refine sr ?_
   refine ya ?_
   refine et (vk1 2 (vc_ret (vq_block_ret (vq_then_ret ?_))))
   rotate_left
   focus
    intro hc4
    try simp only [dn] at hc4
    refine sr ?_
    refine vy (y_eqs rfl rfl) ?_
    refine ya ?_
    refine et (vk2 3 4 ?_)
    refine vif ?_ ?_
    intro hc4
    try simp only [dn] at hc4
    refine kt (vk1 4 ?_)
    refine vc_ift rfl ?_
    refine sr ?_
    refine ya ?_
    refine et (vk1 2 (vc_ret (vq_block_ret (vq_then_ret ?_))))
    rotate_left
    focus
     intro hc4
     try simp only [dn] at hc4
     refine sr ?_
     refine vy (y_eqs rfl rfl) ?_
     refine ya ?_
     refine et (vk2 3 4 ?_)
     refine vif ?_ ?_
     intro hc4
     try simp only [dn] at hc4
     refine kt (vk1 4 ?_)
     refine vc_ift rfl ?_
     refine sr ?_
     refine ya ?_
     refine et (vk1 2 (vc_ret (vq_block_ret (vq_then_ret ?_))))
     rotate_left
     focus
      intro hc4
      try simp only [dn] at hc4
      refine sr ?_
      refine vy (y_eqs rfl rfl) ?_
      refine ya ?_
      refine et (vk2 3 4 ?_)
      refine vif ?_ ?_
      intro hc4
      try simp only [dn] at hc4
      refine kt (vk1 4 ?_)
      refine vc_ift rfl ?_
      refine sr ?_
      refine ya ?_
      refine et (vk1 2 (vc_ret (vq_block_ret (vq_then_ret ?_))))
      rotate_left
      focus
       intro hc4
       try simp only [dn] at hc4
       refine sr ?_
       refine vy (y_eqs rfl rfl) ?_
       refine ya ?_
       refine et (vk2 3 4 ?_)
       refine vif ?_ ?_
       intro hc4
       try simp only [dn] at hc4
       refine kt (vk1 4 ?_)
       refine vc_ift rfl ?_
       refine sr ?_
       refine ya ?_
       refine et (vk1 2 (vc_ret (vq_block_ret (vq_then_ret ?_))))
       rotate_left
       focus
        intro hc4
        try simp only [dn] at hc4
        refine sr ?_
        refine vy (y_eqs rfl rfl) ?_
        refine ya ?_
        refine et (vk2 3 4 ?_)
        refine vif ?_ ?_
        intro hc4
        try simp only [dn] at hc4
        refine kt (vk1 4 ?_)
        refine vc_ift rfl ?_
        refine sr ?_
        refine ya ?_
        refine et (vk1 2 (vc_ret (vq_block_ret (vq_then_ret ?_))))
        rotate_left
        focus
         intro hc4
         try simp only [dn] at hc4
         refine sr ?_
         refine vy (y_eqs rfl rfl) ?_
         refine ya ?_
         refine et (vk2 3 4 ?_)
         refine vif ?_ ?_
         intro hc4
         try simp only [dn] at hc4
         refine kt (vk1 4 ?_)
         refine vc_ift rfl ?_
         refine sr ?_
         refine ya ?_
         refine et (vk1 2 (vc_ret (vq_block_ret (vq_then_ret ?_))))
         rotate_left
         focus
          intro hc4
          try simp only [dn] at hc4
          refine vc_region ?_
          refine vy (y_eqs rfl rfl) ?_
          refine ya ?_
          refine et (vk1 4 ?_)
          refine vif ?_ ?_
          intro hc4
          try simp only [dn] at hc4
          refine sr ?_
          refine ya ?_
          refine et (vk1 2 (vc_ret (vq_block_ret (vq_then_ret ?_))))
          rotate_left
          intro hc4
          try simp only [dn] at hc4
          refine vc_code_skip (vq_block (vq_then (vc_keep [] trivial (sr ?_))))
          refine ya ?_
          refine et (vk1 2 (vc_ret ?_))
 all_goals
  refine vq_ret1 st (.inl rfl) results71 (.tmp rfl) ?_
  refine ⟨_, rfl, ?_⟩
  refine ⟨?_, rfl⟩
  rw [Value.bool.injEq]
  first
  | (symm; simp only [isWord, decide_eq_true_eq]; simp only [wShared, wLock, wThread, wLocal, wIf, wElse, wWhile, wPrint, wSkip, wSwap]; simp only [*, true_or, or_true]; done)
  | (symm; simp only [isWord, decide_eq_false_iff_not]; simp only [wShared, wLock, wThread, wLocal, wIf, wElse, wWhile, wPrint, wSkip, wSwap]; simp only [*, or_self, not_false_eq_true])
set_option maxHeartbeats 1000000 in
theorem rword_any (l : List UInt8) (w : World) : Ret Tryz.prog 77 [str l] w fun v w' => v = .bool (isWord l) ∧ w' = w := by
 refine ret_of [_] func77 rfl ntmps77 rfl ?_
 have st := St.init w []
 refine sr ?_
 refine ya ?_
 refine et (vk1 0 (vc_seq (sr ?_)))
 refine ym ?_
 refine et (vk1 3 (vc_block (vc_seq (sr ?_))))
 refine vy (y_eqs rfl rfl) ?_
 refine ya ?_
 refine et (vk2 3 4 ?_)
 refine vif ?_ ?_
 intro hc4
 try simp only [dn] at hc4
 refine kt (vk1 4 ?_)
 refine vc_ift rfl ?_
 refine sr ?_
 refine ya ?_
 refine et (vk1 2 (vc_ret (vq_block_ret (vq_then_ret ?_))))
 rotate_left
 focus
  intro hc4
  try simp only [dn] at hc4
  refine sr ?_
  refine vy (y_eqs rfl rfl) ?_
  refine ya ?_
  refine et (vk2 3 4 ?_)
  refine vif ?_ ?_
  intro hc4
  try simp only [dn] at hc4
  refine kt (vk1 4 ?_)
  refine vc_ift rfl ?_
  refine sr ?_
  refine ya ?_
  refine et (vk1 2 (vc_ret (vq_block_ret (vq_then_ret ?_))))
  rotate_left
  focus
   intro hc4
   try simp only [dn] at hc4
   refine sr ?_
   refine vy (y_eqs rfl rfl) ?_
   refine ya ?_
   refine et (vk2 3 4 ?_)
   refine vif ?_ ?_
   intro hc4
   try simp only [dn] at hc4
   refine kt (vk1 4 ?_)
   refine vc_ift rfl ?_
   refine sr ?_
   refine ya ?_
   refine et (vk1 2 (vc_ret (vq_block_ret (vq_then_ret ?_))))
   rotate_left
   focus
    intro hc4
    try simp only [dn] at hc4
    refine sr ?_
    refine vy (y_eqs rfl rfl) ?_
    refine ya ?_
    refine et (vk2 3 4 ?_)
    refine vif ?_ ?_
    intro hc4
    try simp only [dn] at hc4
    refine kt (vk1 4 ?_)
    refine vc_ift rfl ?_
    refine sr ?_
    refine ya ?_
    refine et (vk1 2 (vc_ret (vq_block_ret (vq_then_ret ?_))))
    rotate_left
    focus
     intro hc4
     try simp only [dn] at hc4
     refine sr ?_
     refine vy (y_eqs rfl rfl) ?_
     refine ya ?_
     refine et (vk2 3 4 ?_)
     refine vif ?_ ?_
     intro hc4
     try simp only [dn] at hc4
     refine kt (vk1 4 ?_)
     refine vc_ift rfl ?_
     refine sr ?_
     refine ya ?_
     refine et (vk1 2 (vc_ret (vq_block_ret (vq_then_ret ?_))))
     rotate_left
     focus
      intro hc4
      try simp only [dn] at hc4
      refine sr ?_
      refine vy (y_eqs rfl rfl) ?_
      refine ya ?_
      refine et (vk2 3 4 ?_)
      refine vif ?_ ?_
      intro hc4
      try simp only [dn] at hc4
      refine kt (vk1 4 ?_)
      refine vc_ift rfl ?_
      refine sr ?_
      refine ya ?_
      refine et (vk1 2 (vc_ret (vq_block_ret (vq_then_ret ?_))))
      rotate_left
      focus
       intro hc4
       try simp only [dn] at hc4
       refine sr ?_
       refine vy (y_eqs rfl rfl) ?_
       refine ya ?_
       refine et (vk2 3 4 ?_)
       refine vif ?_ ?_
       intro hc4
       try simp only [dn] at hc4
       refine kt (vk1 4 ?_)
       refine vc_ift rfl ?_
       refine sr ?_
       refine ya ?_
       refine et (vk1 2 (vc_ret (vq_block_ret (vq_then_ret ?_))))
       rotate_left
       focus
        intro hc4
        try simp only [dn] at hc4
        refine sr ?_
        refine vy (y_eqs rfl rfl) ?_
        refine ya ?_
        refine et (vk2 3 4 ?_)
        refine vif ?_ ?_
        intro hc4
        try simp only [dn] at hc4
        refine kt (vk1 4 ?_)
        refine vc_ift rfl ?_
        refine sr ?_
        refine ya ?_
        refine et (vk1 2 (vc_ret (vq_block_ret (vq_then_ret ?_))))
        rotate_left
        focus
         intro hc4
         try simp only [dn] at hc4
         refine sr ?_
         refine vy (y_eqs rfl rfl) ?_
         refine ya ?_
         refine et (vk2 3 4 ?_)
         refine vif ?_ ?_
         intro hc4
         try simp only [dn] at hc4
         refine kt (vk1 4 ?_)
         refine vc_ift rfl ?_
         refine sr ?_
         refine ya ?_
         refine et (vk1 2 (vc_ret (vq_block_ret (vq_then_ret ?_))))
         rotate_left
         focus
          intro hc4
          try simp only [dn] at hc4
          refine vc_region ?_
          refine vy (y_eqs rfl rfl) ?_
          refine ya ?_
          refine et (vk1 4 ?_)
          refine vif ?_ ?_
          intro hc4
          try simp only [dn] at hc4
          refine sr ?_
          refine ya ?_
          refine et (vk1 2 (vc_ret (vq_block_ret (vq_then_ret ?_))))
          rotate_left
          intro hc4
          try simp only [dn] at hc4
          refine vc_code_skip (vq_block (vq_then (vc_keep [] trivial (sr ?_))))
          refine ya ?_
          refine et (vk1 2 (vc_ret ?_))
 all_goals
  refine vq_ret1 st (.inl rfl) results77 (.tmp rfl) ?_
  refine ⟨_, rfl, ?_⟩
  refine ⟨?_, rfl⟩
  rw [Value.bool.injEq]
  first
  | (symm; simp only [isWord, decide_eq_true_eq]; simp only [wShared, wLock, wThread, wLocal, wIf, wElse, wWhile, wPrint, wSkip, wSwap]; simp only [*, true_or, or_true]; done)
  | (symm; simp only [isWord, decide_eq_false_iff_not]; simp only [wShared, wLock, wThread, wLocal, wIf, wElse, wWhile, wPrint, wSkip, wSwap]; simp only [*, or_self, not_false_eq_true])
end Go.Proofs.YtggnfanphcaamaaGreatDoor

