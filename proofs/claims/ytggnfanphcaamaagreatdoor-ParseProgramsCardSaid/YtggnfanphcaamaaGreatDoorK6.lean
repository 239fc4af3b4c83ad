/- A part of the proof: contracts of functions and plain laws; each theorem says its own conditions. -/
import Derived.Test.YtggnfanphcaamaaGreatDoorK5
import Derived.Test.YtggnfanphcaamaaGreatDoorK0
namespace Go.Proofs.YtggnfanphcaamaaGreatDoor
open Go.RowKit Sx LexS ParS
set_option linter.unusedVariables false
set_option linter.unusedSimpArgs false
theorem Tryz.info56 : Tryz.prog.info? 56 = some Tryz.t56 := by kernel_rfl
/-- a row of statements -/
def HB (w : World) (l : List Sm) (v : Value) (w' : World) : Prop := ∃ oq cq Sq, v = .slice oq l.length cq ∧ SmR 60 56 w' oq cq l Sq ∧ Nw w.heap.size Sq
/-- a statement's value -/
def HS (w : World) (s : Sm) (v : Value) (w' : World) : Prop := ∃ oe ob ol ce cb cl Sq, v = .agg (smC s oe ob ol ce cb cl).toArray ∧ SmS 60 56 w' s (smC s oe ob ol ce cb cl) Sq ∧ Nw w.heap.size Sq
/-- a reader of blocks (of statements) that lie so deep -/
def BRead (fo : FuncId) (c : PCtx) (d : Nat) (F : List Tok → PR (List Sm)) : Prop := ∀ (r : List Tok) (hr : r <:+ c.ts) (w : World) (hC : PCok c w) (hP : PAt c r w), RetP Tryz.prog fo [.pointer (some ⟨c.pb, 0, none⟩), .int .i64 (d : Int)] w
    (PRes c r (F r) [c.pb] w (HB w)) (PErr c (F r) [c.pb] w)
def SRead (c : PCtx) (d : Nat) (F : List Tok → PR Sm) : Prop := ∀ (r : List Tok) (hr : r <:+ c.ts) (w : World) (hC : PCok c w) (hP : PAt c r w), RetP Tryz.prog 61 [.pointer (some ⟨c.pb, 0, none⟩), .int .i64 (d : Int)] w
    (PRes c r (F r) [c.pb] w (HS w)) (PErr c (F r) [c.pb] w)
theorem holds_sms {w : World} {base : Nat} {s : Sm} {l : List Value} {S : List Nat} (h : SmS 60 56 w s l S) : (Res.tree S fun w => SmS 60 56 w s l S).holds base w := holds_of h h.lt (fun a b h hk => h.kept hk)
theorem holds_smss {w : World} {base : Nat} {s : List Sm} {l : List Value} {S : List Nat} (h : SmSs 60 56 w s l S) : (Res.tree S fun w => SmSs 60 56 w s l S).holds base w := holds_of h h.lt (fun a b h hk => h.kept hk)
theorem blkP_want {e m : Nat} {r : List Tok} (h : isT [123] r = true → m ≠ 0) : blkP e m r = match want e [123] r with
    | .error f => .error f
    | .ok r1 => restW (stmtP e (m - 1)) (r1.length + 1) r1 := by
  cases m with
  | zero =>
    have hF : isT [123] r = false := by cases hc : isT [123] r with | false => rfl | true => exact absurd rfl (h hc)
    rw [want_neg hF]
    simp only [blkP, hF, Bool.false_eq_true, if_false]; rfl
  | succ m => rfl

set_option maxHeartbeats 1000000 in
theorem prest_of (c : PCtx) (hR : c.R = 40) (d m n : Nat) (hS : SRead c d (stmtP c.e m)) (r : List Tok) (hn : r.length < n) (hr : r <:+ c.ts) (w : World) (hC : PCok c w) (hP : PAt c r w) : RetP Tryz.prog 45 [.pointer (some ⟨c.pb, 0, none⟩), .int .i64 (d : Int)] w
    (PRes c r (restW (stmtP c.e m) n r) [c.pb] w (HB w)) (PErr c (restW (stmtP c.e m) n r) [c.pb] w) := by
  refine retp_of [_, _] Tryz.func45 rfl Tryz.ntmps45 rfl ?_
  
  obtain ⟨w0, rfl⟩ : ∃ w0, w0 = w := ⟨_, rfl⟩
  have hP' := hP
  dsimp only [PAt, pcell] at hP
  have st := St.of1 [c.pb] hP
  have h20 := hC.len
  have hl := suf_len hr
  have hs := contS_nil (stmtP c.e m) n r
  replace st := St.pushR (r := .tree [] (fun w => SmSs 60 56 w [] [] [])) st (Chg.refl _ _) (holds_smss (by simp [SmSs])) (by simp [Res.at?])
  replace st := st.ownNil 56 7
  refine vc_seq (vc_region ?_)
  refine vc_y rfl rfl (y_as rfl) ?_
  refine vc_end (vq_then (vc_keep [(0, _), (1, _)] ⟨rfl, rfl, trivial⟩ (vc_seq (vc_region ?_))))
  refine vc_y rfl rfl (y_as rfl) ?_
  refine vc_end (vq_then (vc_keep [(0, _), (1, _), (5, _)] ⟨rfl, rfl, rfl, trivial⟩ (vc_seq (vc_block ?_))))
  refine vc_loop (w0 := w0) (M := [c.pb]) (fun (y : List Sm × List Tok × Nat × Option Addr × Nat × List Value × List Nat) => [(0, .pointer (some ⟨c.pb, 0, none⟩)), (1, .int .i64 (d : Int)), (5, .slice y.2.2.2.1 y.1.length y.2.2.2.2.1)]) (fun y => [.own (.slice y.2.2.2.1 y.1.length y.2.2.2.2.1) 56 7 y.1.length y.2.2.2.2.2.1, .tree y.2.2.2.2.2.2 (fun w => SmSs 60 56 w y.1 y.2.2.2.2.2.1 y.2.2.2.2.2.2), .blk c.pb (.cells (pcell c y.2.1).toArray c.T (0, 0))]) (fun y _ => y.2.1 <:+ r ∧ y.2.1.length + y.1.length ≤ r.length ∧ y.2.1.length < y.2.2.1 ∧ Nw w0.heap.size y.2.2.2.2.2.2 ∧ restW (stmtP c.e m) n r = contS (stmtP c.e m) y.2.2.1 y.1 y.2.1) (fun y => y.2.1.length) ([], r, n, none, 0, [], []) ⟨rfl, rfl, rfl, trivial⟩ st ⟨List.suffix_refl _, by simp, hn, Nw.nil, hs⟩ ?_
  clear st hs
  rintro ⟨acc, r1, k, oq, cq, xs, Sq⟩ w ⟨hsf1, hl1, hk1, hSq, hs⟩ st
  dsimp only at hsf1 hl1 hk1 hSq hs st
  have hr1 := hsf1.trans hr
  obtain ⟨k, rfl⟩ : ∃ j, k = j + 1 := ⟨k - 1, by omega⟩
  refine vc_seq (vc_seq (vc_region ?_))
  refine vc_y rfl rfl (y_mv rfl) ?_
  refine vc_e (e_call [_, _] rfl rfl Tryz.call23 rfl (ptake_any c [125] r1 hr1 _ (hC.k1 st.chg) (by exact st.res (i := 2) rfl)) ?_)
  rintro _ w ⟨rfl, hP1, cw⟩
  replace st := St.prs (b := c.pb) st 2 rfl cw (.inl (.head _)) hP1
  dsimp only [setNth] at st
  refine vc_y rfl rfl (y_not rfl) ?_
  refine vc_end (vq_then (vc_keep [(0, _), (1, _), (5, _), (8, _)] ⟨rfl, rfl, rfl, rfl, trivial⟩ ?_))
  refine vc_ifs rfl ?_ ?_
  · intro hc8
    try simp only [dn] at hc8
    have hF : isT [125] r1 = false := by simpa using hc8
    simp only [hF, Bool.false_eq_true, if_false] at st
    rw [contS_step hF] at hs
    refine vc_code_skip (vq_then (vc_keep [(0, _), (1, _), (5, _)] ⟨rfl, rfl, rfl, trivial⟩ (vc_block (vc_region ?_))))
    iterate 3 refine vc_y rfl rfl (y_mv rfl) ?_
    refine vc_e (e_callp [_, _] rfl rfl Tryz.call61 rfl (hS r1 hr1 _ (hC.k1 st.chg) (by exact st.res (i := 2) rfl)) (by rintro _ w' ⟨f, hf, rfl, ch⟩ a ha; exact And.intro ha (Or.inr ⟨_, rfl, f, by rw [hs, hf], rfl, st.chg.trans ch⟩)) ?_)
    rintro _ w ⟨s, r2, hx, hsfr2, hlnr2, hP1, cw, oe, ob, ol, ce, cb, cl, Ss, rfl, hQ, hN⟩
    have hNSs := hN.le st.chg.size
    replace st := St.prsT (b := c.pb) st 2 rfl cw (.inl (.head _)) hP1 (holds_sms hQ) hN.2
    dsimp only [setNth] at st
    rw [hx] at hs; dsimp only at hs
    have h41 := hr.length_le
    refine vc_e (e_bs1 (l := [_, _, _, _, _, _, _]) st rfl rfl rfl rfl Tryz.underlying48 Tryz.sizeOf56 rfl rfl rfl Tryz.zeroValue56 ?_)
    intro b13 w hb13 st
    refine vc_e (e_app (bytes := 120) st 2 0 rfl rfl rfl rfl rfl rfl Tryz.underlying48 Tryz.info56 rfl rfl rfl rfl rfl (by simp) rfl rfl (by unfold maxLen; omega) (by omega) ?_)
    intro oaQ capQ w st; dsimp only [setNth] at st
    have hS2 := SmSs.snoc (st.res (i := 3) rfl).1 (st.res (i := 1) rfl).1
    have hN2 := hSq.app hNSs (st.ne (i := 3) (j := 1) (by decide) rfl rfl)
    replace st := ((st.pick [3, 1, 2, 4] rfl (by decide)).join (q := .tree (Sq ++ Ss) fun w => SmSs 60 56 w (acc ++ [s]) (xs ++ smC s oe ob ol ce cb cl) (Sq ++ Ss)) (fun k hk => List.mem_append.1 hk) (holds_smss hS2)).pick [1, 0, 2] rfl (by decide)
    refine vc_y rfl rfl (y_as rfl) ?_
    refine vc_end (vq_block ?_)
    refine vq_again (acc ++ [s], r2, k, oaQ, capQ, xs ++ smC s oe ob ol ce cb cl, Sq ++ Ss)  (by refine ⟨rfl, rfl, ?_, trivial⟩; simp [find, put]) (by simpa using st) ?_ ?_
    · exact ⟨hsfr2.trans hsf1, by simp; omega, by dsimp only; omega, hN2, hs⟩
    · dsimp only; omega
  · intro hc8
    try simp only [dn] at hc8
    have hT : isT [125] r1 = true := by simpa using hc8
    simp only [hT, if_true] at st
    rw [contS_end hT] at hs
    have ht := tail_lt (isT_ne hT)
    refine vc_exit (vq_then_exit (vq_then_exit (vq_block_exit (vq_then (vc_keep [(5, _)] ⟨rfl, trivial⟩ (vc_seq (vc_region ?_)))))))
    refine vc_y rfl rfl (y_mv rfl) ?_
    refine vc_y rfl rfl (y_as rfl) ?_
    refine vc_end (vq_then (vc_keep [(4, _)] ⟨rfl, trivial⟩ (vc_ret ?_)))
    refine vq_ret1 st (.inl rfl) Tryz.results45 (.tmp rfl) ?_
    refine .inl ⟨_, rfl, ?_⟩
    have hown := st.ownNw (i := 0) rfl
    exact ⟨acc, _, hs, (List.tail_suffix _).trans hsf1, by omega, (by exact st.res (i := 2) rfl), st.chg, oq, cq, obk oq ++ Sq, rfl, ⟨xs, Sq, hown.1, rfl, (st.res (i := 1) rfl).1⟩, hown.2.app hSq (fun b hb => st.ne (i := 0) (j := 1) (by decide) rfl rfl b (by simpa [Res.at?, obk_own] using hb))⟩

theorem pblock_of (c : PCtx) (hR : c.R = 40) (d m : Nat) (hd : d + m = 64) (hB : ∀ k, m = k + 1 → SRead c (d + 1) (stmtP c.e k)) : BRead 99 c d (blkP c.e m) := by
  intro r hr w hC hP
  refine retp_of [_, _] Tryz.func99 rfl Tryz.ntmps99 rfl ?_
  
  obtain ⟨w0, rfl⟩ : ∃ w0, w0 = w := ⟨_, rfl⟩
  have hP' := hP
  dsimp only [PAt, pcell] at hP
  have st := St.of1 [c.pb] hP
  have h20 := hC.len
  have hl := suf_len hr
  refine vc_seq (vc_region ?_)
  refine vc_y rfl rfl (y_as rfl) ?_
  refine vc_end (vq_then (vc_keep [(0, _), (1, _)] ⟨rfl, rfl, trivial⟩ (vc_seq (vc_seq (vc_region ?_)))))
  refine vc_y rfl rfl (y_mv rfl) ?_
  refine vc_e (e_call [_, _] rfl rfl Tryz.call27 rfl (pis_any c [123] r hr _ (hC.k1 st.chg) (by exact st.res (i := 0) rfl)) ?_)
  rintro _ w ⟨rfl, cw⟩
  replace st := st.call0 cw
  refine vc_e (e_mvb rfl rfl rfl ?_ ?_)
  · intro hg7
    try simp only [dn] at hg7
    refine vc_y rfl rfl (y_mv rfl) ?_
    refine vc_y rfl rfl (y_eqi rfl rfl) ?_
    refine vc_y rfl rfl (y_pickt rfl rfl) ?_
    refine vc_end (vq_then (vc_keep [(0, _), (1, _), (10, _)] ⟨rfl, rfl, rfl, trivial⟩ ?_))
    refine vc_ifs rfl ?_ ?_
    · intro hc10
      try simp only [dn] at hc10
      have hd64 : d = 64 := by omega
      obtain rfl : m = 0 := by omega
      have hs : blkP c.e 0 r = fail c.e 3 r := by simp only [blkP]; rw [if_pos hg7]
      refine vc_region ?_
      refine vc_y rfl rfl (y_mv rfl) ?_
      refine vc_e (e_callp [_, _] rfl rfl Tryz.call29 rfl (pfail_any c 3 r hr _ (hC.k1 st.chg) (by exact st.res (i := 0) rfl) hR) (by rintro _ w' ⟨rfl, ch⟩ a ha; exact And.intro ha (Or.inr ⟨_, rfl, (atT c.e r, 3), by rw [hs]; rfl, rfl, st.chg.trans ch.of_nil⟩)) (fun _ _ h => h.elim))
    · intro hc10
      try simp only [dn] at hc10
      have hm0 : isT [123] r = true → m ≠ 0 := fun _ => by omega
      have hs := blkP_want (e := c.e) hm0
      refine vc_code_skip (vq_then (vc_keep [(0, _), (1, _)] ⟨rfl, rfl, trivial⟩ (vc_seq (vc_region ?_))))
      refine vc_y rfl rfl (y_mv rfl) ?_
      refine vc_e (e_bs1 (l := [_]) st rfl rfl rfl rfl Tryz.underlying96 Tryz.sizeOf9 rfl rfl rfl Tryz.zeroValue9 ?_)
      intro b14 w hb14 st
      refine vc_e (e_callp [_, _] rfl rfl Tryz.call41 rfl (pwant_any c [[123]] (by simp) _ _ _ _ rfl r hr _ (hC.k1 st.chg) (by exact st.res (i := 1) rfl) hR (st.res (i := 0) rfl) (by exact st.bne 0 1 (by decide) rfl rfl)) (by rintro _ w' ⟨f, hf, rfl, ch⟩ a ha; rw [wantL_one] at hf; exact And.intro ha (Or.inr ⟨_, rfl, f, by rw [hs, hf], rfl, st.chg.trans ch⟩)) ?_)
      rintro _ w ⟨r1, hx, hsfr1, hlnr1, hP1, cw⟩
      rw [wantL_one] at hx
      rw [hx] at hs; dsimp only at hs
      replace st := St.prs (b := c.pb) st 1 rfl cw (.inl (.head _)) hP1
      dsimp only [setNth] at st
      have hr1 := hsfr1.trans hr
      obtain ⟨k, rfl⟩ : ∃ k, m = k + 1 := ⟨m - 1, by have := hm0 (want_ok (by assumption)).1; omega⟩
      rw [Nat.add_sub_cancel] at hs
      refine vc_end (vq_then (vc_keep [(0, _), (1, _)] ⟨rfl, rfl, trivial⟩ (vc_seq (vc_region ?_))))
      iterate 2 refine vc_y rfl rfl (y_mv rfl) ?_
      refine vc_y rfl rfl (y_add rfl rfl (by omega : _ = ((d + 1 : Nat) : Int)) (by omega) (by omega)) ?_
      refine vc_e (e_callp [_, _] rfl rfl Tryz.call45 rfl (prest_of c hR (d + 1) k (r1.length + 1) (hB k rfl) r1 (Nat.lt_succ_self _) hr1 _ (hC.k1 st.chg) (by exact st.res (i := 1) rfl)) (by rintro _ w' ⟨f, hf, rfl, ch⟩ a ha; exact And.intro ha (Or.inr ⟨_, rfl, f, by rw [hs, hf], rfl, st.chg.trans ch⟩)) ?_)
      rintro _ w ⟨l, r2, hx, hsfr2, hlnr2, hP1, cw, ob, cb, Sb, rfl, hQ, hN⟩
      have hNSb := hN.le st.chg.size
      replace st := St.prsT (b := c.pb) st 1 rfl cw (.inl (.head _)) hP1 (holds_sm hQ) hN.2
      dsimp only [setNth] at st
      rw [hx] at hs
      refine vc_y rfl rfl (y_as rfl) ?_
      refine vc_end (vq_then (vc_keep [(4, _)] ⟨rfl, trivial⟩ (vc_ret ?_)))
      refine vq_ret1 st (.inl rfl) Tryz.results99 (.tmp rfl) ?_
      refine .inl ⟨_, rfl, ?_⟩
      exact ⟨l, r2, hs, hsfr2.trans hsfr1, by simp at hlnr1; omega, (by exact st.res (i := 2) rfl), st.chg, ob, cb, Sb, rfl, (st.res (i := 0) rfl).1, hNSb⟩
  · intro hg7
    try simp only [dn] at hg7
    have hm0 : isT [123] r = true → m ≠ 0 := fun h => by rw [hg7] at h; cases h
    have hs := blkP_want (e := c.e) hm0
    iterate 2 refine vc_e (e_skip rfl rfl ?_)
    refine vc_y rfl rfl (y_pickf rfl rfl) ?_
    refine vc_end (vq_then (vc_keep [(0, _), (1, _), (10, _)] ⟨rfl, rfl, rfl, trivial⟩ ?_))
    refine vc_iff rfl ?_
    refine vc_code_skip (vq_then (vc_keep [(0, _), (1, _)] ⟨rfl, rfl, trivial⟩ (vc_seq (vc_region ?_))))
    refine vc_y rfl rfl (y_mv rfl) ?_
    refine vc_e (e_bs1 (l := [_]) st rfl rfl rfl rfl Tryz.underlying96 Tryz.sizeOf9 rfl rfl rfl Tryz.zeroValue9 ?_)
    intro b14 w hb14 st
    refine vc_e (e_callp [_, _] rfl rfl Tryz.call41 rfl (pwant_any c [[123]] (by simp) _ _ _ _ rfl r hr _ (hC.k1 st.chg) (by exact st.res (i := 1) rfl) hR (st.res (i := 0) rfl) (by exact st.bne 0 1 (by decide) rfl rfl)) (by rintro _ w' ⟨f, hf, rfl, ch⟩ a ha; rw [wantL_one] at hf; exact And.intro ha (Or.inr ⟨_, rfl, f, by rw [hs, hf], rfl, st.chg.trans ch⟩)) ?_)
    rintro _ w ⟨r1, hx, hsfr1, hlnr1, hP1, cw⟩
    rw [wantL_one] at hx
    rw [hx] at hs; dsimp only at hs
    replace st := St.prs (b := c.pb) st 1 rfl cw (.inl (.head _)) hP1
    dsimp only [setNth] at st
    have hr1 := hsfr1.trans hr
    obtain ⟨k, rfl⟩ : ∃ k, m = k + 1 := ⟨m - 1, by have := hm0 (want_ok (by assumption)).1; omega⟩
    rw [Nat.add_sub_cancel] at hs
    refine vc_end (vq_then (vc_keep [(0, _), (1, _)] ⟨rfl, rfl, trivial⟩ (vc_seq (vc_region ?_))))
    iterate 2 refine vc_y rfl rfl (y_mv rfl) ?_
    refine vc_y rfl rfl (y_add rfl rfl (by omega : _ = ((d + 1 : Nat) : Int)) (by omega) (by omega)) ?_
    refine vc_e (e_callp [_, _] rfl rfl Tryz.call45 rfl (prest_of c hR (d + 1) k (r1.length + 1) (hB k rfl) r1 (Nat.lt_succ_self _) hr1 _ (hC.k1 st.chg) (by exact st.res (i := 1) rfl)) (by rintro _ w' ⟨f, hf, rfl, ch⟩ a ha; exact And.intro ha (Or.inr ⟨_, rfl, f, by rw [hs, hf], rfl, st.chg.trans ch⟩)) ?_)
    rintro _ w ⟨l, r2, hx, hsfr2, hlnr2, hP1, cw, ob, cb, Sb, rfl, hQ, hN⟩
    have hNSb := hN.le st.chg.size
    replace st := St.prsT (b := c.pb) st 1 rfl cw (.inl (.head _)) hP1 (holds_sm hQ) hN.2
    dsimp only [setNth] at st
    rw [hx] at hs
    refine vc_y rfl rfl (y_as rfl) ?_
    refine vc_end (vq_then (vc_keep [(4, _)] ⟨rfl, trivial⟩ (vc_ret ?_)))
    refine vq_ret1 st (.inl rfl) Tryz.results99 (.tmp rfl) ?_
    refine .inl ⟨_, rfl, ?_⟩
    exact ⟨l, r2, hs, hsfr2.trans hsfr1, by simp at hlnr1; omega, (by exact st.res (i := 2) rfl), st.chg, ob, cb, Sb, rfl, (st.res (i := 0) rfl).1, hNSb⟩

set_option maxHeartbeats 1000000 in
theorem pchoice_of (c : PCtx) (hR : c.R = 40) (hg : c.g = 1) (d : Nat) (blk : List Tok → PR (List Sm)) (hB : BRead 99 c d blk) (a : Nat) (r : List Tok) (hr : r <:+ c.ts) (w : World) (hC : PCok c w) (hP : PAt c r w) (xb : Nat) (hX : w.heap[xb]? = some (.cells (sm00 (a : Int)).toArray 56 (0, 0))) (hne : c.pb ≠ xb) (hxn : c.n0 ≤ xb) : RetP Tryz.prog 87 [.pointer (some ⟨c.pb, 0, none⟩), .pointer (some ⟨xb, 0, none⟩), .int .i64 (d : Int)] w
    (PRes c r (choiceP c.e blk a r) [c.pb, xb] w (fun s _ w' => StIn 60 56 xb w.heap.size s w')) (PErr c (choiceP c.e blk a r) [c.pb, xb] w) := by
  refine retp_of [_, _, _] Tryz.func87 rfl Tryz.ntmps87 rfl ?_
  
  obtain ⟨w0, rfl⟩ : ∃ w0, w0 = w := ⟨_, rfl⟩
  have hP' := hP
  dsimp only [PAt, pcell] at hP
  have st := St.of2 [c.pb, xb] hP hX hne
  have KC : ∀ {w'}, Chg [c.pb, xb] w0 w' → PCok c w' := fun ch => hC.k2 ch hxn
  have h20 := hC.len
  have hl := suf_len hr
  have hs := choiceP.eq_1 c.e blk a r
  refine vc_seq (vc_region ?_)
  iterate 3 refine vc_y rfl rfl (y_mv rfl) ?_
  refine vc_e (e_callp [_] rfl rfl Tryz.call98 rfl (pcond_any c hR hg r hr _ (KC st.chg) (by exact st.res (i := 0) rfl)) (by rintro _ w' ⟨f, hf, rfl, ch⟩ a ha; exact And.intro ha (Or.inr ⟨_, rfl, f, by rw [hs, hf], rfl, st.chg.trans (ch.mono (by simp))⟩)) ?_)
  rintro _ w ⟨x, r1, hx, hsfr1, hlnr1, hP1, cw, ox, cx, Sx, rfl, hQ, hN⟩
  have hNSx := hN.le st.chg.size
  replace st := St.prsT (b := c.pb) st 0 rfl cw (.inl (.head _)) hP1 (holds_ex hQ) hN.2
  dsimp only [setNth] at st
  rw [hx] at hs; dsimp only at hs
  have hr1 := hsfr1.trans hr
  refine vc_y rfl rfl (y_nck rfl) ?_
  refine vc_y rfl rfl (y_fa0 rfl Tryz.underlying56 rfl rfl Tryz.sizeOf53 rfl) ?_
  refine vc_e (e_st st 2 rfl rfl rfl rfl Tryz.sizeOf53 rfl rfl (by first | (right; assumption) | (left; simp)) ?_)
  intro w st; dsimp only [setNth, wr] at st
  refine vc_y rfl rfl (y_nck rfl) ?_
  refine vc_y rfl rfl ((by exact y_faz (k := 3) rfl Tryz.underlying56 rfl rfl Tryz.sizeOf54 rfl)) ?_
  refine vc_e (e_st st 2 rfl rfl rfl rfl Tryz.sizeOf54 rfl rfl (by first | (right; assumption) | (left; simp)) ?_)
  intro w st; dsimp only [setNth, wr] at st
  refine vc_end (vq_then (vc_keep [(0, _), (1, _), (2, _)] ⟨rfl, rfl, rfl, trivial⟩ (vc_seq (vc_region ?_))))
  iterate 3 refine vc_y rfl rfl (y_mv rfl) ?_
  refine vc_e (e_callp [_, _] rfl rfl Tryz.call99 rfl (hB r1 hr1 _ (KC st.chg) (by exact st.res (i := 1) rfl)) (by rintro _ w' ⟨f, hf, rfl, ch⟩ a ha; exact And.intro ha (Or.inr ⟨_, rfl, f, by rw [hs, hf], rfl, st.chg.trans (ch.mono (by simp))⟩)) ?_)
  rintro _ w ⟨l1, r2, hx, hsfr2, hlnr2, hP1, cw, ob, cb, Sb, rfl, hQ, hN⟩
  have hNSb := hN.le st.chg.size
  replace st := St.prsT (b := c.pb) st 1 rfl cw (.inl (.head _)) hP1 (holds_sm hQ) hN.2
  dsimp only [setNth] at st
  rw [hx] at hs; dsimp only at hs
  have hr2 := hsfr2.trans hr1
  refine vc_y rfl rfl (y_nck rfl) ?_
  refine vc_y rfl rfl ((by exact y_faz (k := 4) rfl Tryz.underlying56 rfl rfl Tryz.sizeOf48 rfl)) ?_
  refine vc_e (e_st st 3 rfl rfl rfl rfl Tryz.sizeOf48 rfl rfl (by first | (right; assumption) | (left; simp)) ?_)
  intro w st; dsimp only [setNth, wr] at st
  refine vc_end (vq_then (vc_keep [(0, _), (1, _), (2, _)] ⟨rfl, rfl, rfl, trivial⟩ (vc_seq (vc_region ?_))))
  refine vc_y rfl rfl (y_mv rfl) ?_
  refine vc_e (e_call [_, _] rfl rfl Tryz.call23 rfl (ptake_any c wElse r2 hr2 _ (KC st.chg) (by exact st.res (i := 2) rfl)) ?_)
  rintro _ w ⟨rfl, hP1, cw⟩
  replace st := St.prs (b := c.pb) st 2 rfl cw (.inl (.head _)) hP1
  dsimp only [setNth] at st
  refine vc_end (vq_then (vc_keep [(0, _), (1, _), (2, _), (21, _)] ⟨rfl, rfl, rfl, rfl, trivial⟩ ?_))
  refine vc_ifs rfl ?_ ?_
  · intro hc21
    try simp only [dn] at hc21
    simp only [hc21, if_true] at st hs
    have ht := tail_lt (isT_ne hc21)
    have hr2t := suf_tail hr2
    refine vc_region ?_
    iterate 3 refine vc_y rfl rfl (y_mv rfl) ?_
    refine vc_e (e_callp [_, _] rfl rfl Tryz.call99 rfl (hB r2.tail hr2t _ (KC st.chg) (by exact st.res (i := 2) rfl)) (by rintro _ w' ⟨f, hf, rfl, ch⟩ a ha; exact And.intro ha (Or.inr ⟨_, rfl, f, by rw [hs, hf], rfl, st.chg.trans (ch.mono (by simp))⟩)) ?_)
    rintro _ w ⟨l2, r3, hx, hsfr3, hlnr3, hP1, cw, ol, cl, Sl, rfl, hQ, hN⟩
    have hNSl := hN.le st.chg.size
    replace st := St.prsT (b := c.pb) st 2 rfl cw (.inl (.head _)) hP1 (holds_sm hQ) hN.2
    dsimp only [setNth] at st
    rw [hx] at hs; dsimp only at hs
    have hr3 := hsfr3.trans hr2t
    refine vc_y rfl rfl (y_nck rfl) ?_
    refine vc_y rfl rfl ((by exact y_faz (k := 5) rfl Tryz.underlying56 rfl rfl Tryz.sizeOf48 rfl)) ?_
    refine vc_e (e_st st 4 rfl rfl rfl rfl Tryz.sizeOf48 rfl rfl (by first | (right; assumption) | (left; simp)) ?_)
    intro w st; dsimp only [setNth, wr] at st
    refine vc_end ?_
    refine vq_ret0 (.inr rfl) Tryz.results87 ?_
    refine .inl ⟨_, rfl, ?_⟩
    exact ⟨_, r3, hs, hsfr3.trans ((List.tail_suffix _).trans (hsfr2.trans hsfr1)), by omega, (by exact st.res (i := 3) rfl), st.chg, ox, ob, ol, cx, cb, cl, Sx, Sb, Sl, (by exact st.res (i := 4) rfl), (st.res (i := 2) rfl).1, (st.res (i := 1) rfl).1, (st.res (i := 0) rfl).1, hNSx.app (hNSb.app hNSl (st.ne (i := 1) (j := 0) (by decide) rfl rfl)) (fun b hb hb' => (List.mem_append.1 hb').elim (st.ne (i := 2) (j := 1) (by decide) rfl rfl b hb) (st.ne (i := 2) (j := 0) (by decide) rfl rfl b hb))⟩
  · intro hc21
    try simp only [dn] at hc21
    simp only [hc21, Bool.false_eq_true, if_false] at st hs
    refine vc_code_skip ?_
    refine vq_ret0 (.inr rfl) Tryz.results87 ?_
    refine .inl ⟨_, rfl, ?_⟩
    exact ⟨_, r2, hs, hsfr2.trans hsfr1, by omega, (by exact st.res (i := 2) rfl), st.chg, ox, ob, none, cx, cb, 0, Sx, Sb, [], (by exact st.res (i := 3) rfl), (st.res (i := 1) rfl).1, (st.res (i := 0) rfl).1, smr_nil, by rw [List.append_nil]; exact hNSx.app hNSb (st.ne (i := 1) (j := 0) (by decide) rfl rfl)⟩

theorem ploop_of (c : PCtx) (hR : c.R = 40) (hg : c.g = 1) (d : Nat) (blk : List Tok → PR (List Sm)) (hB : BRead 99 c d blk) (a : Nat) (r : List Tok) (hr : r <:+ c.ts) (w : World) (hC : PCok c w) (hP : PAt c r w) (xb : Nat) (hX : w.heap[xb]? = some (.cells (sm00 (a : Int)).toArray 56 (0, 0))) (hne : c.pb ≠ xb) (hxn : c.n0 ≤ xb) : RetP Tryz.prog 88 [.pointer (some ⟨c.pb, 0, none⟩), .pointer (some ⟨xb, 0, none⟩), .int .i64 (d : Int)] w
    (PRes c r (loopP c.e blk a r) [c.pb, xb] w (fun s _ w' => StIn 60 56 xb w.heap.size s w')) (PErr c (loopP c.e blk a r) [c.pb, xb] w) := by
  refine retp_of [_, _, _] Tryz.func88 rfl Tryz.ntmps88 rfl ?_
  
  obtain ⟨w0, rfl⟩ : ∃ w0, w0 = w := ⟨_, rfl⟩
  have hP' := hP
  dsimp only [PAt, pcell] at hP
  have st := St.of2 [c.pb, xb] hP hX hne
  have KC : ∀ {w'}, Chg [c.pb, xb] w0 w' → PCok c w' := fun ch => hC.k2 ch hxn
  have h20 := hC.len
  have hl := suf_len hr
  have hs := loopP.eq_1 c.e blk a r
  refine vc_seq (vc_region ?_)
  iterate 3 refine vc_y rfl rfl (y_mv rfl) ?_
  refine vc_e (e_callp [_] rfl rfl Tryz.call98 rfl (pcond_any c hR hg r hr _ (KC st.chg) (by exact st.res (i := 0) rfl)) (by rintro _ w' ⟨f, hf, rfl, ch⟩ a ha; exact And.intro ha (Or.inr ⟨_, rfl, f, by rw [hs, hf], rfl, st.chg.trans (ch.mono (by simp))⟩)) ?_)
  rintro _ w ⟨x, r1, hx, hsfr1, hlnr1, hP1, cw, ox, cx, Sx, rfl, hQ, hN⟩
  have hNSx := hN.le st.chg.size
  replace st := St.prsT (b := c.pb) st 0 rfl cw (.inl (.head _)) hP1 (holds_ex hQ) hN.2
  dsimp only [setNth] at st
  rw [hx] at hs; dsimp only at hs
  have hr1 := hsfr1.trans hr
  refine vc_y rfl rfl (y_nck rfl) ?_
  refine vc_y rfl rfl (y_fa0 rfl Tryz.underlying56 rfl rfl Tryz.sizeOf53 rfl) ?_
  refine vc_e (e_st st 2 rfl rfl rfl rfl Tryz.sizeOf53 rfl rfl (by first | (right; assumption) | (left; simp)) ?_)
  intro w st; dsimp only [setNth, wr] at st
  refine vc_y rfl rfl (y_nck rfl) ?_
  refine vc_y rfl rfl ((by exact y_faz (k := 3) rfl Tryz.underlying56 rfl rfl Tryz.sizeOf54 rfl)) ?_
  refine vc_e (e_st st 2 rfl rfl rfl rfl Tryz.sizeOf54 rfl rfl (by first | (right; assumption) | (left; simp)) ?_)
  intro w st; dsimp only [setNth, wr] at st
  refine vc_end (vq_then (vc_keep [(0, _), (1, _), (2, _)] ⟨rfl, rfl, rfl, trivial⟩ (vc_region ?_)))
  iterate 3 refine vc_y rfl rfl (y_mv rfl) ?_
  refine vc_e (e_callp [_, _] rfl rfl Tryz.call99 rfl (hB r1 hr1 _ (KC st.chg) (by exact st.res (i := 1) rfl)) (by rintro _ w' ⟨f, hf, rfl, ch⟩ a ha; exact And.intro ha (Or.inr ⟨_, rfl, f, by rw [hs, hf], rfl, st.chg.trans (ch.mono (by simp))⟩)) ?_)
  rintro _ w ⟨l1, r2, hx, hsfr2, hlnr2, hP1, cw, ob, cb, Sb, rfl, hQ, hN⟩
  have hNSb := hN.le st.chg.size
  replace st := St.prsT (b := c.pb) st 1 rfl cw (.inl (.head _)) hP1 (holds_sm hQ) hN.2
  dsimp only [setNth] at st
  rw [hx] at hs; dsimp only at hs
  have hr2 := hsfr2.trans hr1
  refine vc_y rfl rfl (y_nck rfl) ?_
  refine vc_y rfl rfl ((by exact y_faz (k := 4) rfl Tryz.underlying56 rfl rfl Tryz.sizeOf48 rfl)) ?_
  refine vc_e (e_st st 3 rfl rfl rfl rfl Tryz.sizeOf48 rfl rfl (by first | (right; assumption) | (left; simp)) ?_)
  intro w st; dsimp only [setNth, wr] at st
  refine vc_end ?_
  refine vq_ret0 (.inr rfl) Tryz.results88 ?_
  refine .inl ⟨_, rfl, ?_⟩
  exact ⟨_, r2, hs, hsfr2.trans hsfr1, by omega, (by exact st.res (i := 2) rfl), st.chg, ox, ob, none, cx, cb, 0, Sx, Sb, [], (by exact st.res (i := 3) rfl), (st.res (i := 1) rfl).1, (st.res (i := 0) rfl).1, smr_nil, by rw [List.append_nil]; exact hNSx.app hNSb (st.ne (i := 1) (j := 0) (by decide) rfl rfl)⟩

theorem pguard_of (c : PCtx) (hR : c.R = 40) (hg : c.g = 1) (d : Nat) (blk : List Tok → PR (List Sm)) (hB : BRead 99 c d blk) (a : Nat) (r : List Tok) (hr : r <:+ c.ts) (w : World) (hC : PCok c w) (hP : PAt c r w) (xb : Nat) (hX : w.heap[xb]? = some (.cells (sm00 (a : Int)).toArray 56 (0, 0))) (hne : c.pb ≠ xb) (hxn : c.n0 ≤ xb) : RetP Tryz.prog 89 [.pointer (some ⟨c.pb, 0, none⟩), .pointer (some ⟨xb, 0, none⟩), .int .i64 (d : Int)] w
    (PRes c r (guardP c.e blk a r) [c.pb, xb] w (fun s _ w' => StIn 60 56 xb w.heap.size s w')) (PErr c (guardP c.e blk a r) [c.pb, xb] w) := by
  refine retp_of [_, _, _] Tryz.func89 rfl Tryz.ntmps89 rfl ?_
  
  obtain ⟨w0, rfl⟩ : ∃ w0, w0 = w := ⟨_, rfl⟩
  have hP' := hP
  dsimp only [PAt, pcell] at hP
  have st := St.of2 [c.pb, xb] hP hX hne
  have KC : ∀ {w'}, Chg [c.pb, xb] w0 w' → PCok c w' := fun ch => hC.k2 ch hxn
  have h20 := hC.len
  have hl := suf_len hr
  have hs := guardP.eq_1 c.e blk a r
  refine vc_seq (vc_region ?_)
  iterate 3 refine vc_y rfl rfl (y_mv rfl) ?_
  refine vc_e (e_callp [_] rfl rfl Tryz.call44 rfl (pname_any c hR r hr _ (KC st.chg) (by exact st.res (i := 0) rfl)) (by rintro _ w' ⟨f, hf, rfl, ch⟩ a ha; exact And.intro ha (Or.inr ⟨_, rfl, f, by rw [hs, hf], rfl, st.chg.trans (ch.mono (by simp))⟩)) ?_)
  rintro _ w ⟨t, r1, hx, hsf, hln, hP1, cw, rfl⟩
  replace st := St.prs (b := c.pb) st 0 rfl cw (.inl (.head _)) hP1
  dsimp only [setNth] at st
  rw [hx] at hs; dsimp only at hs
  have hr1 := hsf.trans hr
  have hsfr1 := hsf
  have hlnr1 := hln
  refine vc_y rfl rfl (y_fld rfl Tryz.underlying82 rfl rfl Tryz.isAgg9 rfl) ?_
  refine vc_y rfl rfl (y_nck rfl) ?_
  refine vc_y rfl rfl (y_fa0 rfl Tryz.underlying56 rfl rfl Tryz.sizeOf53 rfl) ?_
  refine vc_e (e_st st 1 rfl rfl rfl rfl Tryz.sizeOf53 rfl rfl (by first | (right; assumption) | (left; simp)) ?_)
  intro w st; dsimp only [setNth, wr] at st
  refine vc_y rfl rfl (y_nck rfl) ?_
  refine vc_y rfl rfl ((by exact y_faz (k := 1) rfl Tryz.underlying56 rfl rfl Tryz.sizeOf9 rfl)) ?_
  refine vc_e (e_st st 1 rfl rfl rfl rfl Tryz.sizeOf9 rfl rfl (by first | (right; assumption) | (left; simp)) ?_)
  intro w st; dsimp only [setNth, wr] at st
  refine vc_end (vq_then (vc_keep [(0, _), (1, _), (2, _)] ⟨rfl, rfl, rfl, trivial⟩ (vc_region ?_)))
  iterate 3 refine vc_y rfl rfl (y_mv rfl) ?_
  refine vc_e (e_callp [_, _] rfl rfl Tryz.call99 rfl (hB r1 hr1 _ (KC st.chg) (by exact st.res (i := 0) rfl)) (by rintro _ w' ⟨f, hf, rfl, ch⟩ a ha; exact And.intro ha (Or.inr ⟨_, rfl, f, by rw [hs, hf], rfl, st.chg.trans (ch.mono (by simp))⟩)) ?_)
  rintro _ w ⟨l1, r2, hx, hsfr2, hlnr2, hP1, cw, ob, cb, Sb, rfl, hQ, hN⟩
  have hNSb := hN.le st.chg.size
  replace st := St.prsT (b := c.pb) st 0 rfl cw (.inl (.head _)) hP1 (holds_sm hQ) hN.2
  dsimp only [setNth] at st
  rw [hx] at hs; dsimp only at hs
  have hr2 := hsfr2.trans hr1
  refine vc_y rfl rfl (y_nck rfl) ?_
  refine vc_y rfl rfl ((by exact y_faz (k := 4) rfl Tryz.underlying56 rfl rfl Tryz.sizeOf48 rfl)) ?_
  refine vc_e (e_st st 2 rfl rfl rfl rfl Tryz.sizeOf48 rfl rfl (by first | (right; assumption) | (left; simp)) ?_)
  intro w st; dsimp only [setNth, wr] at st
  refine vc_end ?_
  refine vq_ret0 (.inr rfl) Tryz.results89 ?_
  refine .inl ⟨_, rfl, ?_⟩
  exact ⟨_, r2, hs, hsfr2.trans hsfr1, by omega, (by exact st.res (i := 1) rfl), st.chg, none, ob, none, 0, cb, 0, [], Sb, [], (by exact st.res (i := 2) rfl), exr_nil, (st.res (i := 0) rfl).1, smr_nil, by simpa using hNSb⟩

/-- what statements begin with, and what reads what follows -/
abbrev formsL (c : PCtx) : List (Wd × Value) := [(wIf, .func (.func 87) [.pointer (some ⟨c.pb, 0, none⟩)].toArray #[]), (wWhile, .func (.func 88) [.pointer (some ⟨c.pb, 0, none⟩)].toArray #[]), (wLock, .func (.func 89) [.pointer (some ⟨c.pb, 0, none⟩)].toArray #[]), (wPrint, .func (.func 90) [.pointer (some ⟨c.pb, 0, none⟩)].toArray #[]), (wSkip, .func (.func 91) [.pointer (some ⟨c.pb, 0, none⟩)].toArray #[])]

theorem pforms_any (c : PCtx) (w : World) : Ret Tryz.prog 72 [.pointer (some ⟨c.pb, 0, none⟩)] w fun v w' => ∃ b, v = .map (some b) ∧ w.heap.size ≤ b ∧ w'.heap[b]? = some (mapF (formsL c)) ∧ Chg [] w w' := by
  refine ret_of [_] Tryz.func72 rfl Tryz.ntmps72 rfl ?_
  have st := St.init w []
  obtain ⟨w0, rfl⟩ : ∃ w0, w0 = w := ⟨_, rfl⟩
  refine vc_seq (vc_region ?_)
  refine vc_y rfl rfl (y_as rfl) ?_
  refine vc_end (vq_then (vc_keep [(0, _)] ⟨rfl, trivial⟩ (vc_seq (vc_region ?_))))
  refine vc_e (e_mkF st rfl rfl ?_)
  intro b3 w hb3 st
  refine vc_y rfl rfl (y_mv rfl) ?_
  refine vc_y rfl rfl (y_mf [_] [] rfl rfl) ?_
  refine vc_e (e_inF st 0 rfl rfl rfl rfl rfl (by first | (right; assumption) | (left; simp)) Tryz.underlying108 Tryz.underlying9 (by simp [getF]) ?_)
  intro w st; dsimp only [setNth, List.cons_append, List.nil_append] at st
  refine vc_y rfl rfl (y_mv rfl) ?_
  refine vc_y rfl rfl (y_mf [_] [] rfl rfl) ?_
  refine vc_e (e_inF st 0 rfl rfl rfl rfl rfl (by first | (right; assumption) | (left; simp)) Tryz.underlying108 Tryz.underlying9 (by simp [getF]) ?_)
  intro w st; dsimp only [setNth, List.cons_append, List.nil_append] at st
  refine vc_y rfl rfl (y_mv rfl) ?_
  refine vc_y rfl rfl (y_mf [_] [] rfl rfl) ?_
  refine vc_e (e_inF st 0 rfl rfl rfl rfl rfl (by first | (right; assumption) | (left; simp)) Tryz.underlying108 Tryz.underlying9 (by simp [getF]) ?_)
  intro w st; dsimp only [setNth, List.cons_append, List.nil_append] at st
  refine vc_y rfl rfl (y_mv rfl) ?_
  refine vc_y rfl rfl (y_mf [_] [] rfl rfl) ?_
  refine vc_e (e_inF st 0 rfl rfl rfl rfl rfl (by first | (right; assumption) | (left; simp)) Tryz.underlying108 Tryz.underlying9 (by simp [getF]) ?_)
  intro w st; dsimp only [setNth, List.cons_append, List.nil_append] at st
  refine vc_y rfl rfl (y_mv rfl) ?_
  refine vc_y rfl rfl (y_mf [_] [] rfl rfl) ?_
  refine vc_e (e_inF st 0 rfl rfl rfl rfl rfl (by first | (right; assumption) | (left; simp)) Tryz.underlying108 Tryz.underlying9 (by simp [getF]) ?_)
  intro w st; dsimp only [setNth, List.cons_append, List.nil_append] at st
  refine vc_y rfl rfl (y_mv rfl) ?_
  refine vc_y rfl rfl (y_as rfl) ?_
  refine vc_end (vq_then (vc_keep [(2, _)] ⟨rfl, trivial⟩ (vc_ret ?_)))
  refine vq_ret1 st (.inl rfl) Tryz.results72 (.tmp rfl) ?_
  refine ⟨_, rfl, ?_⟩
  exact ⟨b3, rfl, hb3, st.res (i := 0) rfl, st.chg⟩

set_option maxHeartbeats 2000000 in
theorem pstmt_of (c : PCtx) (hR : c.R = 40) (hg : c.g = 1) (d : Nat) (blk : List Tok → PR (List Sm)) (hB : BRead 99 c d blk) : SRead c d (stmtW c.e blk) := by
  intro r hr w hC hP
  refine retp_of [_, _] Tryz.func61 rfl Tryz.ntmps61 rfl ?_
  
  obtain ⟨w0, rfl⟩ : ∃ w0, w0 = w := ⟨_, rfl⟩
  have hP' := hP
  dsimp only [PAt, pcell] at hP
  have st := St.of1 [c.pb] hP
  have h20 := hC.len
  have hl := suf_len hr
  have hs := stmtW_eq c.e blk r
  refine vc_seq (vc_region ?_)
  refine vc_e (e_al (l := [_, _, _, _, _, _, _]) st rfl rfl Tryz.zeroValue56 rfl ?_)
  intro b4 w hb4 st
  refine vc_end (vq_then (vc_keep [(0, _), (1, _), (4, _)] ⟨rfl, rfl, rfl, trivial⟩ (vc_seq (vc_region ?_))))
  refine vc_y rfl rfl (y_mv rfl) ?_
  refine vc_e (e_call [_] rfl rfl Tryz.call46 rfl (pat_any c r hr _ (hC.k1 st.chg) (by exact st.res (i := 1) rfl)) ?_)
  rintro _ w ⟨rfl, cw⟩
  replace st := st.call0 cw
  refine vc_y rfl rfl (y_bld (.agg #[_, _, _, _, _, _, _]) [(6, _)] rfl (fun w => by simp [Instr.build, go_sem] <;> repeat' constructor)) ?_
  refine vc_e (e_al (l := [_, _, _, _, _, _, _]) st rfl rfl Tryz.zeroValue56 rfl ?_)
  intro b5 w hb5 st
  refine vc_e (e_sts (vs := [_, _, _, _, _, _, _]) st 0 rfl rfl rfl rfl rfl Tryz.sizeOf56 rfl rfl (by first | (right; assumption) | (left; simp)) ?_)
  intro w st; dsimp only [setNth, wr] at st
  refine vc_end (vq_then (vc_keep [(0, _), (1, _), (4, _), (5, _)] ⟨rfl, rfl, rfl, rfl, trivial⟩ (vc_seq (vc_region ?_))))
  have hpx : c.pb ≠ b5 := st.bne 2 0 (by decide) rfl rfl
  refine vc_y rfl rfl (y_mv rfl) ?_
  refine vc_e (e_call [_] rfl rfl Tryz.call42 rfl (phere_any c r hr _ (hC.k1 st.chg) (by exact st.res (i := 2) rfl)) ?_)
  rintro _ w ⟨rfl, cw⟩
  replace st := st.call0 cw
  refine vc_e (e_al (l := [_, _, _, _]) st rfl rfl Tryz.zeroValue82 rfl ?_)
  intro b6 w hb6 st
  refine vc_e (e_sts (vs := [_, _, _, _]) st 0 rfl rfl rfl rfl rfl Tryz.sizeOf82 rfl rfl (by first | (right; assumption) | (left; simp)) ?_)
  intro w st; dsimp only [setNth, wr] at st
  refine vc_end (vq_then (vc_keep [(0, _), (1, _), (4, _), (5, _), (6, _)] ⟨rfl, rfl, rfl, rfl, rfl, trivial⟩ (vc_seq (vc_seq ?_))))
  refine vc_draw Tryz.mixed [(0, true), (2, true), (3, true), (1, false), (4, false), (5, true), (6, true), (7, true), (8, true), (9, true)] (fun w => St _ _ [.blk b6 (.cells (tkL (here r)).toArray 82 (0, 0))] w) (by exact st.drop (by repeat (first | exact sl0 | apply sl1 | apply sl2))) (by kernel_rfl) (by repeat (first | exact okQ_noPan | exact okQ_body | exact okQ_bodyS | refine okQ_then ?_ | refine okQ_block ?_)) rfl (by kernel_rfl) ?_
  intro w cd; replace st := st.call0 cd; clear cd
  have hS : St _ _ [.blk b6 (.cells (tkL (here r)).toArray 82 (0, 0))] w := (by exact st.drop (by repeat (first | exact sl0 | apply sl1 | apply sl2)))
  refine vp_take rfl rfl rfl hS (fun w st => y_mv rfl) ?_
  refine vp_take rfl rfl rfl hS (fun w st => (by exact y_faz (k := 1) rfl Tryz.underlying82 rfl rfl Tryz.sizeOf9 rfl)) ?_
  refine vp_take rfl rfl rfl hS (fun w st => (by exact y_ld st 0 rfl Tryz.isAgg9 rfl rfl)) ?_
  refine vp_do rfl (e_call [_] rfl rfl Tryz.call72 rfl (pforms_any c _) ?_)
  rintro _ w ⟨bm, rfl, hbm, hMp, cw⟩
  replace st := St.pushR (r := .blk bm (mapF (formsL c))) st cw hMp (by simpa [Res.at?] using hbm)
  refine vp_next (by exact st.drop (by repeat (first | exact sl0 | apply sl1 | apply sl2))) ?_; intro hS
  refine vp_do rfl (e_lkF st 0 rfl rfl rfl rfl rfl Tryz.underlying108 Tryz.underlying9 Tryz.zeroValue106 ?_)
  refine vp_next (by exact st.drop (by repeat (first | exact sl0 | apply sl1 | apply sl2))) ?_; intro hS
  refine vp_take rfl rfl rfl hS (fun w st => y_mv rfl) ?_
  iterate 2 refine vp_take rfl rfl rfl hS (fun w st => y_ext rfl rfl) ?_
  iterate 2 refine vp_take rfl rfl rfl hS (fun w st => y_as rfl) ?_
  refine vp_end (vq_then (vc_keep [(0, _), (1, _), (4, _), (5, _), (6, _), (7, _), (8, _)] ⟨rfl, rfl, rfl, rfl, rfl, rfl, rfl, trivial⟩ (vc_seq (vc_region ?_))))
  refine vc_y rfl rfl (y_mv rfl) ?_
  refine vc_e (e_mvb rfl rfl rfl ?_ ?_)
  · intro hg23
    try simp only [dn] at hg23
    refine vc_y rfl rfl (y_fa0 rfl Tryz.underlying82 rfl rfl Tryz.sizeOf80 rfl) ?_
    refine vc_y rfl rfl ((by exact y_ld st 1 rfl Tryz.isAgg80 rfl rfl)) ?_
    refine vc_y rfl rfl (y_eqi rfl rfl) ?_
    refine vc_y rfl rfl (y_pickt rfl rfl) ?_
    refine vc_end (vq_then (vc_keep [(0, _), (1, _), (4, _), (5, _), (7, _), (27, _)] ⟨rfl, rfl, rfl, rfl, rfl, rfl, trivial⟩ ?_))
    refine vc_ifs rfl ?_ ?_
    · intro hc27
      try simp only [dn] at hc27
      refine vc_seq (vc_region ?_)
      refine vc_y rfl rfl (y_mv rfl) ?_
      refine vc_e (e_call [_] rfl rfl Tryz.call43 rfl (pnext_any c r hr (kind_ne (k := 2) (by omega) (by decide)) _ (hC.k1 st.chg) (by exact st.res (i := 4) rfl)) ?_)
      rintro _ w ⟨rfl, hP1, cw⟩
      replace st := St.prs (b := c.pb) st 4 rfl cw (.inl (.head _)) hP1
      dsimp only [setNth] at st
      refine vc_end (vq_then (vc_keep [(1, _), (4, _), (5, _), (7, _)] ⟨rfl, rfl, rfl, rfl, trivial⟩ (vc_seq (vc_region ?_))))
      iterate 2 refine vc_y rfl rfl (y_mv rfl) ?_
      have hkd : (here r).kind = 2 := by omega
      have hlt := tail_lt (kind_ne hkd (by decide))
      rcases getF5 (v1 := (.func (.func 87) [.pointer (some ⟨c.pb, 0, none⟩)].toArray #[])) (v2 := (.func (.func 88) [.pointer (some ⟨c.pb, 0, none⟩)].toArray #[])) (v3 := (.func (.func 89) [.pointer (some ⟨c.pb, 0, none⟩)].toArray #[])) (v4 := (.func (.func 90) [.pointer (some ⟨c.pb, 0, none⟩)].toArray #[])) (v5 := (.func (.func 91) [.pointer (some ⟨c.pb, 0, none⟩)].toArray #[])) (here r).text with ⟨he1, he2⟩ | ⟨he1, he2⟩ | ⟨he1, he2⟩ | ⟨he1, he2⟩ | ⟨he1, he2⟩ | ⟨he1, he2⟩
      rotate_right 1
      · exfalso; rw [he2] at hg23; cases hg23
      · have hform : formT (here r) wIf = true := by unfold formT; simp [he1, hkd]
        rw [if_pos hform] at hs
        refine vc_e (e_callvp (f := 87) (first := [.pointer (some ⟨c.pb, 0, none⟩)]) (captured := []) [_, _] rfl rfl (by show some _ = some _; rw [he2]; rfl) Tryz.call87 rfl (pchoice_of c hR hg d blk hB (atT c.e r) r.tail (suf_tail hr) _ (hC.k1 st.chg) (st.res (i := 4) rfl) b5 (st.res (i := 2) rfl) hpx (Nat.le_trans hC.le hb5)) (by
          rintro _ w' ⟨f, hf, rfl, ch⟩ a ha
          exact And.intro ha (Or.inr ⟨_, rfl, f, by rw [hs, hf], rfl, st.chg.trans' ch (fun k hk => by
            rcases List.mem_cons.1 hk with rfl | hk
            · exact .inl (.head _)
            · exact .inr (by simp at hk; subst hk; exact hb5))⟩)) ?_)
        rintro _ w ⟨s, r2, hx, hsfr2, hlnr2, hP1, cw, oe, ob, ol, ce, cb, cl, Se, Sb, Sl, hX2, hE2, hB2, hL2, hN2⟩
        rw [hx] at hs
        have hN3 := hN2.le st.chg.size
        have hS2 : SmS 60 56 w s (smC s oe ob ol ce cb cl) (Se ++ (Sb ++ Sl)) := SmS_iff.2 ⟨oe, ce, ob, cb, ol, cl, Se, Sb, Sl, rfl, hE2, hB2, hL2, rfl⟩
        replace st := (st.pick [4, 2, 0, 1, 3] rfl (by decide)).prs2 cw (.inl (.head _)) (.inr hb5) hP1 hX2 (holds_sms hS2) hN2.2
        refine vc_end (vq_then (vc_keep [(4, _), (5, _)] ⟨rfl, rfl, trivial⟩ (vc_seq (vc_region ?_))))
        refine vc_y rfl rfl ((by exact y_lda (vs := [_, _, _, _, _, _, _]) st 2 rfl Tryz.isAgg56 Tryz.sizeOf56 rfl rfl)) ?_
        refine vc_e (e_sts (vs := [_, _, _, _, _, _, _]) st 5 rfl rfl rfl rfl rfl Tryz.sizeOf56 rfl rfl (by first | (right; assumption) | (left; simp)) ?_)
        intro w st; dsimp only [setNth, wr] at st
        refine vc_end (vq_then (vc_keep [(4, _)] ⟨rfl, trivial⟩ (vc_ret (vq_then_ret ?_))))
        refine vq_ret1 st (.inl rfl) Tryz.results61 (by exact .cell 5 rfl rfl Tryz.isAgg56 Tryz.sizeOf56) ?_
        refine .inl ⟨_, rfl, ?_⟩
        exact ⟨s, r2, hs, hsfr2.trans (List.tail_suffix _), by omega, (by exact st.res (i := 1) rfl), st.chg, oe, ob, ol, ce, cb, cl, _, rfl, (st.res (i := 0) rfl).1, hN3⟩
      · have hform : formT (here r) wWhile = true := by unfold formT; simp [he1, hkd]
        rw [if_neg (form_ne (s := wIf) he1 (by decide)), if_pos hform] at hs
        refine vc_e (e_callvp (f := 88) (first := [.pointer (some ⟨c.pb, 0, none⟩)]) (captured := []) [_, _] rfl rfl (by show some _ = some _; rw [he2]; rfl) Tryz.call88 rfl (ploop_of c hR hg d blk hB (atT c.e r) r.tail (suf_tail hr) _ (hC.k1 st.chg) (st.res (i := 4) rfl) b5 (st.res (i := 2) rfl) hpx (Nat.le_trans hC.le hb5)) (by
          rintro _ w' ⟨f, hf, rfl, ch⟩ a ha
          exact And.intro ha (Or.inr ⟨_, rfl, f, by rw [hs, hf], rfl, st.chg.trans' ch (fun k hk => by
            rcases List.mem_cons.1 hk with rfl | hk
            · exact .inl (.head _)
            · exact .inr (by simp at hk; subst hk; exact hb5))⟩)) ?_)
        rintro _ w ⟨s, r2, hx, hsfr2, hlnr2, hP1, cw, oe, ob, ol, ce, cb, cl, Se, Sb, Sl, hX2, hE2, hB2, hL2, hN2⟩
        rw [hx] at hs
        have hN3 := hN2.le st.chg.size
        have hS2 : SmS 60 56 w s (smC s oe ob ol ce cb cl) (Se ++ (Sb ++ Sl)) := SmS_iff.2 ⟨oe, ce, ob, cb, ol, cl, Se, Sb, Sl, rfl, hE2, hB2, hL2, rfl⟩
        replace st := (st.pick [4, 2, 0, 1, 3] rfl (by decide)).prs2 cw (.inl (.head _)) (.inr hb5) hP1 hX2 (holds_sms hS2) hN2.2
        refine vc_end (vq_then (vc_keep [(4, _), (5, _)] ⟨rfl, rfl, trivial⟩ (vc_seq (vc_region ?_))))
        refine vc_y rfl rfl ((by exact y_lda (vs := [_, _, _, _, _, _, _]) st 2 rfl Tryz.isAgg56 Tryz.sizeOf56 rfl rfl)) ?_
        refine vc_e (e_sts (vs := [_, _, _, _, _, _, _]) st 5 rfl rfl rfl rfl rfl Tryz.sizeOf56 rfl rfl (by first | (right; assumption) | (left; simp)) ?_)
        intro w st; dsimp only [setNth, wr] at st
        refine vc_end (vq_then (vc_keep [(4, _)] ⟨rfl, trivial⟩ (vc_ret (vq_then_ret ?_))))
        refine vq_ret1 st (.inl rfl) Tryz.results61 (by exact .cell 5 rfl rfl Tryz.isAgg56 Tryz.sizeOf56) ?_
        refine .inl ⟨_, rfl, ?_⟩
        exact ⟨s, r2, hs, hsfr2.trans (List.tail_suffix _), by omega, (by exact st.res (i := 1) rfl), st.chg, oe, ob, ol, ce, cb, cl, _, rfl, (st.res (i := 0) rfl).1, hN3⟩
      · have hform : formT (here r) wLock = true := by unfold formT; simp [he1, hkd]
        rw [if_neg (form_ne (s := wIf) he1 (by decide)), if_neg (form_ne (s := wWhile) he1 (by decide)), if_pos hform] at hs
        refine vc_e (e_callvp (f := 89) (first := [.pointer (some ⟨c.pb, 0, none⟩)]) (captured := []) [_, _] rfl rfl (by show some _ = some _; rw [he2]; rfl) Tryz.call89 rfl (pguard_of c hR hg d blk hB (atT c.e r) r.tail (suf_tail hr) _ (hC.k1 st.chg) (st.res (i := 4) rfl) b5 (st.res (i := 2) rfl) hpx (Nat.le_trans hC.le hb5)) (by
          rintro _ w' ⟨f, hf, rfl, ch⟩ a ha
          exact And.intro ha (Or.inr ⟨_, rfl, f, by rw [hs, hf], rfl, st.chg.trans' ch (fun k hk => by
            rcases List.mem_cons.1 hk with rfl | hk
            · exact .inl (.head _)
            · exact .inr (by simp at hk; subst hk; exact hb5))⟩)) ?_)
        rintro _ w ⟨s, r2, hx, hsfr2, hlnr2, hP1, cw, oe, ob, ol, ce, cb, cl, Se, Sb, Sl, hX2, hE2, hB2, hL2, hN2⟩
        rw [hx] at hs
        have hN3 := hN2.le st.chg.size
        have hS2 : SmS 60 56 w s (smC s oe ob ol ce cb cl) (Se ++ (Sb ++ Sl)) := SmS_iff.2 ⟨oe, ce, ob, cb, ol, cl, Se, Sb, Sl, rfl, hE2, hB2, hL2, rfl⟩
        replace st := (st.pick [4, 2, 0, 1, 3] rfl (by decide)).prs2 cw (.inl (.head _)) (.inr hb5) hP1 hX2 (holds_sms hS2) hN2.2
        refine vc_end (vq_then (vc_keep [(4, _), (5, _)] ⟨rfl, rfl, trivial⟩ (vc_seq (vc_region ?_))))
        refine vc_y rfl rfl ((by exact y_lda (vs := [_, _, _, _, _, _, _]) st 2 rfl Tryz.isAgg56 Tryz.sizeOf56 rfl rfl)) ?_
        refine vc_e (e_sts (vs := [_, _, _, _, _, _, _]) st 5 rfl rfl rfl rfl rfl Tryz.sizeOf56 rfl rfl (by first | (right; assumption) | (left; simp)) ?_)
        intro w st; dsimp only [setNth, wr] at st
        refine vc_end (vq_then (vc_keep [(4, _)] ⟨rfl, trivial⟩ (vc_ret (vq_then_ret ?_))))
        refine vq_ret1 st (.inl rfl) Tryz.results61 (by exact .cell 5 rfl rfl Tryz.isAgg56 Tryz.sizeOf56) ?_
        refine .inl ⟨_, rfl, ?_⟩
        exact ⟨s, r2, hs, hsfr2.trans (List.tail_suffix _), by omega, (by exact st.res (i := 1) rfl), st.chg, oe, ob, ol, ce, cb, cl, _, rfl, (st.res (i := 0) rfl).1, hN3⟩
      · have hform : formT (here r) wPrint = true := by unfold formT; simp [he1, hkd]
        rw [if_neg (form_ne (s := wIf) he1 (by decide)), if_neg (form_ne (s := wWhile) he1 (by decide)), if_neg (form_ne (s := wLock) he1 (by decide)), if_pos hform] at hs
        refine vc_e (e_callvp (f := 90) (first := [.pointer (some ⟨c.pb, 0, none⟩)]) (captured := []) [_, _] rfl rfl (by show some _ = some _; rw [he2]; rfl) Tryz.call90 rfl (pprint_any c hR hg  (atT c.e r) r.tail (suf_tail hr) _ (hC.k1 st.chg) (st.res (i := 4) rfl) b5 (st.res (i := 2) rfl) hpx (Nat.le_trans hC.le hb5) (.int .i64 (d : Int))) (by
          rintro _ w' ⟨f, hf, rfl, ch⟩ a ha
          exact And.intro ha (Or.inr ⟨_, rfl, f, by rw [hs, hf], rfl, st.chg.trans' ch (fun k hk => by
            rcases List.mem_cons.1 hk with rfl | hk
            · exact .inl (.head _)
            · exact .inr (by simp at hk; subst hk; exact hb5))⟩)) ?_)
        rintro _ w ⟨s, r2, hx, hsfr2, hlnr2, hP1, cw, oe, ob, ol, ce, cb, cl, Se, Sb, Sl, hX2, hE2, hB2, hL2, hN2⟩
        rw [hx] at hs
        have hN3 := hN2.le st.chg.size
        have hS2 : SmS 60 56 w s (smC s oe ob ol ce cb cl) (Se ++ (Sb ++ Sl)) := SmS_iff.2 ⟨oe, ce, ob, cb, ol, cl, Se, Sb, Sl, rfl, hE2, hB2, hL2, rfl⟩
        replace st := (st.pick [4, 2, 0, 1, 3] rfl (by decide)).prs2 cw (.inl (.head _)) (.inr hb5) hP1 hX2 (holds_sms hS2) hN2.2
        refine vc_end (vq_then (vc_keep [(4, _), (5, _)] ⟨rfl, rfl, trivial⟩ (vc_seq (vc_region ?_))))
        refine vc_y rfl rfl ((by exact y_lda (vs := [_, _, _, _, _, _, _]) st 2 rfl Tryz.isAgg56 Tryz.sizeOf56 rfl rfl)) ?_
        refine vc_e (e_sts (vs := [_, _, _, _, _, _, _]) st 5 rfl rfl rfl rfl rfl Tryz.sizeOf56 rfl rfl (by first | (right; assumption) | (left; simp)) ?_)
        intro w st; dsimp only [setNth, wr] at st
        refine vc_end (vq_then (vc_keep [(4, _)] ⟨rfl, trivial⟩ (vc_ret (vq_then_ret ?_))))
        refine vq_ret1 st (.inl rfl) Tryz.results61 (by exact .cell 5 rfl rfl Tryz.isAgg56 Tryz.sizeOf56) ?_
        refine .inl ⟨_, rfl, ?_⟩
        exact ⟨s, r2, hs, hsfr2.trans (List.tail_suffix _), by omega, (by exact st.res (i := 1) rfl), st.chg, oe, ob, ol, ce, cb, cl, _, rfl, (st.res (i := 0) rfl).1, hN3⟩
      · have hform : formT (here r) wSkip = true := by unfold formT; simp [he1, hkd]
        rw [if_neg (form_ne (s := wIf) he1 (by decide)), if_neg (form_ne (s := wWhile) he1 (by decide)), if_neg (form_ne (s := wLock) he1 (by decide)), if_neg (form_ne (s := wPrint) he1 (by decide)), if_pos hform] at hs
        refine vc_e (e_callvp (f := 91) (first := [.pointer (some ⟨c.pb, 0, none⟩)]) (captured := []) [_, _] rfl rfl (by show some _ = some _; rw [he2]; rfl) Tryz.call91 rfl (pskip_any c hR hg  (atT c.e r) r.tail (suf_tail hr) _ (hC.k1 st.chg) (st.res (i := 4) rfl) b5 (st.res (i := 2) rfl) hpx (Nat.le_trans hC.le hb5) (.int .i64 (d : Int))) (by
          rintro _ w' ⟨f, hf, rfl, ch⟩ a ha
          exact And.intro ha (Or.inr ⟨_, rfl, f, by rw [hs, hf], rfl, st.chg.trans' ch (fun k hk => by
            rcases List.mem_cons.1 hk with rfl | hk
            · exact .inl (.head _)
            · exact .inr (by simp at hk; subst hk; exact hb5))⟩)) ?_)
        rintro _ w ⟨s, r2, hx, hsfr2, hlnr2, hP1, cw, oe, ob, ol, ce, cb, cl, Se, Sb, Sl, hX2, hE2, hB2, hL2, hN2⟩
        rw [hx] at hs
        have hN3 := hN2.le st.chg.size
        have hS2 : SmS 60 56 w s (smC s oe ob ol ce cb cl) (Se ++ (Sb ++ Sl)) := SmS_iff.2 ⟨oe, ce, ob, cb, ol, cl, Se, Sb, Sl, rfl, hE2, hB2, hL2, rfl⟩
        replace st := (st.pick [4, 2, 0, 1, 3] rfl (by decide)).prs2 cw (.inl (.head _)) (.inr hb5) hP1 hX2 (holds_sms hS2) hN2.2
        refine vc_end (vq_then (vc_keep [(4, _), (5, _)] ⟨rfl, rfl, trivial⟩ (vc_seq (vc_region ?_))))
        refine vc_y rfl rfl ((by exact y_lda (vs := [_, _, _, _, _, _, _]) st 2 rfl Tryz.isAgg56 Tryz.sizeOf56 rfl rfl)) ?_
        refine vc_e (e_sts (vs := [_, _, _, _, _, _, _]) st 5 rfl rfl rfl rfl rfl Tryz.sizeOf56 rfl rfl (by first | (right; assumption) | (left; simp)) ?_)
        intro w st; dsimp only [setNth, wr] at st
        refine vc_end (vq_then (vc_keep [(4, _)] ⟨rfl, trivial⟩ (vc_ret (vq_then_ret ?_))))
        refine vq_ret1 st (.inl rfl) Tryz.results61 (by exact .cell 5 rfl rfl Tryz.isAgg56 Tryz.sizeOf56) ?_
        refine .inl ⟨_, rfl, ?_⟩
        exact ⟨s, r2, hs, hsfr2.trans (List.tail_suffix _), by omega, (by exact st.res (i := 1) rfl), st.chg, oe, ob, ol, ce, cb, cl, _, rfl, (st.res (i := 0) rfl).1, hN3⟩
    · intro hc27
      try simp only [dn] at hc27
      have hs := stmtW_assign (e := c.e) (blk := blk) (ts := r) (.inr (by omega))
      refine vc_code_skip (vq_then (vc_keep [(0, _), (4, _), (5, _)] ⟨rfl, rfl, rfl, trivial⟩ (vc_seq (vc_region ?_))))
      refine vc_y rfl rfl (y_mv rfl) ?_
      refine vc_e (e_callp [_, _] rfl rfl Tryz.call73 rfl (passign_any c hR hg  (atT c.e r) r hr _ (hC.k1 st.chg) (st.res (i := 4) rfl) b5 (st.res (i := 2) rfl) hpx (Nat.le_trans hC.le hb5)) (by
        rintro _ w' ⟨f, hf, rfl, ch⟩ a ha
        exact And.intro ha (Or.inr ⟨_, rfl, f, by rw [hs, hf], rfl, st.chg.trans' ch (fun k hk => by
          rcases List.mem_cons.1 hk with rfl | hk
          · exact .inl (.head _)
          · exact .inr (by simp at hk; subst hk; exact hb5))⟩)) ?_)
      rintro _ w ⟨s, r2, hx, hsfr2, hlnr2, hP1, cw, oe, ob, ol, ce, cb, cl, Se, Sb, Sl, hX2, hE2, hB2, hL2, hN2⟩
      rw [hx] at hs
      have hN3 := hN2.le st.chg.size
      have hS2 : SmS 60 56 w s (smC s oe ob ol ce cb cl) (Se ++ (Sb ++ Sl)) := SmS_iff.2 ⟨oe, ce, ob, cb, ol, cl, Se, Sb, Sl, rfl, hE2, hB2, hL2, rfl⟩
      replace st := (st.pick [4, 2, 0, 1, 3] rfl (by decide)).prs2 cw (.inl (.head _)) (.inr hb5) hP1 hX2 (holds_sms hS2) hN2.2
      refine vc_end (vq_then (vc_keep [(4, _), (5, _)] ⟨rfl, rfl, trivial⟩ (vc_seq (vc_region ?_))))
      refine vc_y rfl rfl ((by exact y_lda (vs := [_, _, _, _, _, _, _]) st 2 rfl Tryz.isAgg56 Tryz.sizeOf56 rfl rfl)) ?_
      refine vc_e (e_sts (vs := [_, _, _, _, _, _, _]) st 5 rfl rfl rfl rfl rfl Tryz.sizeOf56 rfl rfl (by first | (right; assumption) | (left; simp)) ?_)
      intro w st; dsimp only [setNth, wr] at st
      refine vc_end (vq_then (vc_keep [(4, _)] ⟨rfl, trivial⟩ (vc_ret ?_)))
      refine vq_ret1 st (.inl rfl) Tryz.results61 (by exact .cell 5 rfl rfl Tryz.isAgg56 Tryz.sizeOf56) ?_
      refine .inl ⟨_, rfl, ?_⟩
      exact ⟨s, r2, hs, hsfr2, hlnr2, (by exact st.res (i := 1) rfl), st.chg, oe, ob, ol, ce, cb, cl, _, rfl, (st.res (i := 0) rfl).1, hN3⟩
  · intro hg23
    try simp only [dn] at hg23
    have hs := stmtW_assign (e := c.e) (blk := blk) (ts := r) (.inl (by
      rcases getF5 (v1 := (.func (.func 87) [.pointer (some ⟨c.pb, 0, none⟩)].toArray #[])) (v2 := (.func (.func 88) [.pointer (some ⟨c.pb, 0, none⟩)].toArray #[])) (v3 := (.func (.func 89) [.pointer (some ⟨c.pb, 0, none⟩)].toArray #[])) (v4 := (.func (.func 90) [.pointer (some ⟨c.pb, 0, none⟩)].toArray #[])) (v5 := (.func (.func 91) [.pointer (some ⟨c.pb, 0, none⟩)].toArray #[])) (here r).text with ⟨_, he2⟩ | ⟨_, he2⟩ | ⟨_, he2⟩ | ⟨_, he2⟩ | ⟨_, he2⟩ | ⟨he1, _⟩
      all_goals first | exact he1 | (exfalso; rw [he2] at hg23; cases hg23)))
    iterate 3 refine vc_e (e_skip rfl rfl ?_)
    refine vc_y rfl rfl (y_pickf rfl rfl) ?_
    refine vc_end (vq_then (vc_keep [(0, _), (1, _), (4, _), (5, _), (7, _), (27, _)] ⟨rfl, rfl, rfl, rfl, rfl, rfl, trivial⟩ ?_))
    refine vc_iff rfl ?_
    refine vc_code_skip (vq_then (vc_keep [(0, _), (4, _), (5, _)] ⟨rfl, rfl, rfl, trivial⟩ (vc_seq (vc_region ?_))))
    refine vc_y rfl rfl (y_mv rfl) ?_
    refine vc_e (e_callp [_, _] rfl rfl Tryz.call73 rfl (passign_any c hR hg  (atT c.e r) r hr _ (hC.k1 st.chg) (st.res (i := 4) rfl) b5 (st.res (i := 2) rfl) hpx (Nat.le_trans hC.le hb5)) (by
      rintro _ w' ⟨f, hf, rfl, ch⟩ a ha
      exact And.intro ha (Or.inr ⟨_, rfl, f, by rw [hs, hf], rfl, st.chg.trans' ch (fun k hk => by
        rcases List.mem_cons.1 hk with rfl | hk
        · exact .inl (.head _)
        · exact .inr (by simp at hk; subst hk; exact hb5))⟩)) ?_)
    rintro _ w ⟨s, r2, hx, hsfr2, hlnr2, hP1, cw, oe, ob, ol, ce, cb, cl, Se, Sb, Sl, hX2, hE2, hB2, hL2, hN2⟩
    rw [hx] at hs
    have hN3 := hN2.le st.chg.size
    have hS2 : SmS 60 56 w s (smC s oe ob ol ce cb cl) (Se ++ (Sb ++ Sl)) := SmS_iff.2 ⟨oe, ce, ob, cb, ol, cl, Se, Sb, Sl, rfl, hE2, hB2, hL2, rfl⟩
    replace st := (st.pick [4, 2, 0, 1, 3] rfl (by decide)).prs2 cw (.inl (.head _)) (.inr hb5) hP1 hX2 (holds_sms hS2) hN2.2
    refine vc_end (vq_then (vc_keep [(4, _), (5, _)] ⟨rfl, rfl, trivial⟩ (vc_seq (vc_region ?_))))
    refine vc_y rfl rfl ((by exact y_lda (vs := [_, _, _, _, _, _, _]) st 2 rfl Tryz.isAgg56 Tryz.sizeOf56 rfl rfl)) ?_
    refine vc_e (e_sts (vs := [_, _, _, _, _, _, _]) st 5 rfl rfl rfl rfl rfl Tryz.sizeOf56 rfl rfl (by first | (right; assumption) | (left; simp)) ?_)
    intro w st; dsimp only [setNth, wr] at st
    refine vc_end (vq_then (vc_keep [(4, _)] ⟨rfl, trivial⟩ (vc_ret ?_)))
    refine vq_ret1 st (.inl rfl) Tryz.results61 (by exact .cell 5 rfl rfl Tryz.isAgg56 Tryz.sizeOf56) ?_
    refine .inl ⟨_, rfl, ?_⟩
    exact ⟨s, r2, hs, hsfr2, hlnr2, (by exact st.res (i := 1) rfl), st.chg, oe, ob, ol, ce, cb, cl, _, rfl, (st.res (i := 0) rfl).1, hN3⟩

theorem pstmt_any (c : PCtx) (hR : c.R = 40) (hg : c.g = 1) : ∀ (m d : Nat), d + m = 64 → SRead c d (stmtP c.e m)
  | 0, d, h => by
    rw [stmtP_blk]
    exact pstmt_of c hR hg d _ (pblock_of c hR d 0 h (fun k hk => by omega))
  | m + 1, d, h => by
    rw [stmtP_blk]
    exact pstmt_of c hR hg d _ (pblock_of c hR d (m + 1) h (fun k hk => by
      obtain rfl : k = m := by omega
      exact pstmt_any c hR hg k (d + 1) (by omega)))
/-- the statements of a thread -/
theorem prest_any (c : PCtx) (hR : c.R = 40) (hg : c.g = 1) (r : List Tok) (hr : r <:+ c.ts) (w : World) (hC : PCok c w) (hP : PAt c r w) : RetP Tryz.prog 45 [.pointer (some ⟨c.pb, 0, none⟩), .int .i64 1] w
    (PRes c r (restP c.e 63 r) [c.pb] w (HB w)) (PErr c (restP c.e 63 r) [c.pb] w) := prest_of c hR 1 63 (r.length + 1) (pstmt_any c hR hg 63 1 rfl) r (Nat.lt_succ_self _) hr w hC hP

end Go.Proofs.YtggnfanphcaamaaGreatDoor


/- The engine, twenty-second part: a statement whose order is drawn, with stores behind what is read: the condition is asked for only until the first store. -/
namespace Sx
open Go Go.RowKit
set_option linter.unusedVariables false
set_option linter.unusedSimpArgs false

section
variable {P : Program} {md : Region.Mode} {ops : Array Oper} {Q : Exit → Act → World → Prop} {S : World → Prop} {s : Nat}
def wpAnyK (P : Program) (md : Region.Mode) (ops : Array Oper) (Q : Exit → Act → World → Prop) (s : Nat) (S : World → Prop) : Nat → Array Bool → Act → World → Prop
  | 0, listed, a, w => Region.ready md ops listed = [] ∧ Q .normal a w
  | fuel + 1, listed, a, w => (Region.ready md ops listed = [] → Q .normal a w) ∧
    ∀ i ∈ Region.ready md ops listed, wpOp P ops Q i (fun a' w' => ((listed.setIfInBounds i true).getD s false = false → S w') ∧ wpAnyK P md ops Q s S fuel (listed.setIfInBounds i true) a' w') a w
theorem wpAny_of_K : ∀ (fuel : Nat) (listed : Array Bool) (a : Act) (w : World), wpAnyK P md ops Q s S fuel listed a w → wpAny P md ops Q fuel listed a w
  | 0, _, _, _, h => h
  | fuel + 1, _, _, _, h => ⟨h.1, fun i hi => wpOp_mono (fun a' w' h' => wpAny_of_K fuel _ a' w' h'.2) (h.2 i hi)⟩
theorem getD_set_self {l : Array Bool} {i s : Nat} (h : i ≠ s) : (l.setIfInBounds i true).getD s false = l.getD s false := getD_set_ne false h
/-- what has come up has waited for all that it waits for -/
def DownL (md : Region.Mode) (ops : Array Oper) (listed : Array Bool) : Prop := ∀ j oj, ops[j]? = some oj → listed.getD j false = true → ∀ e ∈ oj.after, Region.binds md e = true → listed.getD e.on false = true
theorem DownL.set {listed : Array Bool} (h : DownL md ops listed) {j : Nat} (hj : j ∈ Region.ready md ops listed) : DownL md ops (listed.setIfInBounds j true) := by
  intro k ok hk hl e he hb
  have mono : ∀ m, listed.getD m false = true → (listed.setIfInBounds j true).getD m false = true := fun m hm => by
    by_cases hmj : j = m
    · subst hmj
      have : j < listed.size := by
        rcases Nat.lt_or_ge j listed.size with h | h
        · exact h
        · simp [Array.getElem?_eq_none h] at hm
      simp [this]
    · rw [getD_set_ne false hmj]; exact hm
  refine mono _ ?_
  by_cases hkj : j = k
  · subst hkj
    obtain ⟨-, oj, hoj, hall⟩ := mem_ready.1 hj
    rw [hk] at hoj
    cases hoj
    exact by simpa using hall e he hb
  · rw [getD_set_ne false hkj] at hl
    exact h k ok hk hl e he hb
theorem DownL.none (n : Nat) : DownL md ops (Array.replicate n false) := by
  intro j oj _ hl
  rcases Nat.lt_or_ge j n with h | h <;> simp [h] at hl
/-- an operation that yields the same in every world -/
theorem wpAnyK_firstU {i : Nat} {oi : Oper} {v : Value} (hi : ops[i]? = some oi) (hsel : ∀ (j : Nat) (o : Oper) cs b, ops[j]? = some o → o.op ≠ .select cs b)
    (hQ : ∀ c a w, Q (.panic c) (a.put oi.dst v) w → Q (.panic c) a w) (his : i ≠ s) :
    ∀ (fuel : Nat) (listed : Array Bool) (a : Act) (w : World),
      (∀ j oj, ops[j]? = some oj → j ≠ i → listed.getD j true = false → (∀ e ∈ oj.after, Region.binds md e = true → e.on ≠ i) → oi.apart ops oj = true) →
      i ∈ Region.ready md ops listed → YieldsIf P ops (fun _ => True) oi v a → (listed.getD s false = false → S w) →
      wpAnyK P md ops Q s S fuel (listed.setIfInBounds i true) (a.put oi.dst v) w → wpAnyK P md ops Q s S (fuel + 1) listed a w := by
  intro fuel
  induction fuel with
  | zero =>
    intro listed a w _ hr hy hS H
    refine ⟨fun h => (by rw [h] at hr; cases hr), fun j hj => ?_⟩
    by_cases hji : j = i
    · subst hji; exact hy.wpOp hi trivial ⟨fun h => hS (by rwa [getD_set_self his] at h), H⟩
    · have := ready_mono hj hji
      rw [H.1] at this
      cases this
  | succ fuel ih =>
    intro listed a w hfree hr hy hS H
    refine ⟨fun h => (by rw [h] at hr; cases hr), fun j hj => ?_⟩
    by_cases hji : j = i
    · subst hji; exact hy.wpOp hi trivial ⟨fun h => hS (by rwa [getD_set_self his] at h), H⟩
    · have h1 := H.2 j (ready_mono hj hji)
      obtain ⟨hjun, oj, hoj, hall⟩ := mem_ready.1 hj
      have hnot : ∀ e ∈ oj.after, Region.binds md e = true → e.on ≠ i := fun e he hb heq => by
        have h1 := hall e he hb
        have h0 := (mem_ready.1 hr).1
        rw [heq] at h1
        rcases Nat.lt_or_ge i listed.size with h' | h'
        · simp [h'] at h0 h1; rw [h0] at h1; cases h1
        · simp [Array.getElem?_eq_none h'] at h1
      have h2 := wpOp_putIf hoj (hfree j oj hoj hji hjun hnot) (fun cs b => hsel i oi cs b hi) (fun cs b => hsel j oj cs b hoj) hQ hy h1
      have hfree' : ∀ k ok, ops[k]? = some ok → k ≠ i → (listed.setIfInBounds j true).getD k true = false →
          (∀ e ∈ ok.after, Region.binds md e = true → e.on ≠ i) → oi.apart ops ok = true := fun k ok hk hki hun hno => by
        refine hfree k ok hk hki ?_ hno
        by_cases hjk : j = k
        · subst hjk; exact hjun
        · rw [getD_set_ne true hjk] at hun; exact hun
      have hcom : ∀ (h : (listed.setIfInBounds j true).getD s false = false), ((listed.setIfInBounds i true).setIfInBounds j true).getD s false = false := fun h => by
        rw [Array.setIfInBounds_comm _ _ (Ne.symm hji), getD_set_self his]; exact h
      refine wpOp_mono (fun a' w' h3 => ⟨fun h => h3.2.1 (hcom h), ih (listed.setIfInBounds j true) a' w' hfree' (ready_mono hr (Ne.symm hji)) h3.1 (fun h => h3.2.1 (hcom h)) ?_⟩) h2
      rw [Array.setIfInBounds_comm _ _ hji]
      exact h3.2.2
theorem wpAnyK_first {i : Nat} {oi : Oper} {v : Value} (hi : ops[i]? = some oi) (hsel : ∀ (j : Nat) (o : Oper) cs b, ops[j]? = some o → o.op ≠ .select cs b)
    (hQ : ∀ c a w, Q (.panic c) (a.put oi.dst v) w → Q (.panic c) a w) (his : i ≠ s) (hwait : ∀ os, ops[s]? = some os → ∃ e ∈ os.after, Region.binds md e = true ∧ (e.on = i ∨ ∃ om, ops[e.on]? = some om ∧ ∃ e' ∈ om.after, Region.binds md e' = true ∧ e'.on = i)) :
    ∀ (fuel : Nat) (listed : Array Bool) (a : Act) (w : World),
      (∀ j oj, ops[j]? = some oj → j ≠ i → listed.getD j true = false → (∀ e ∈ oj.after, Region.binds md e = true → e.on ≠ i) → oi.apart ops oj = true) →
      i ∈ Region.ready md ops listed → DownL md ops listed → listed.getD s false = false → YieldsIf P ops S oi v a → S w →
      wpAnyK P md ops Q s S fuel (listed.setIfInBounds i true) (a.put oi.dst v) w → wpAnyK P md ops Q s S (fuel + 1) listed a w := by
  intro fuel
  induction fuel with
  | zero =>
    intro listed a w _ hr hdn hl hy hS H
    refine ⟨fun h => (by rw [h] at hr; cases hr), fun j hj => ?_⟩
    by_cases hji : j = i
    · subst hji; exact hy.wpOp hi hS ⟨fun _ => hS, H⟩
    · have := ready_mono hj hji
      rw [H.1] at this
      cases this
  | succ fuel ih =>
    intro listed a w hfree hr hdn hl hy hS H
    refine ⟨fun h => (by rw [h] at hr; cases hr), fun j hj => ?_⟩
    by_cases hji : j = i
    · subst hji; exact hy.wpOp hi hS ⟨fun _ => hS, H⟩
    · have h1 := H.2 j (ready_mono hj hji)
      obtain ⟨hjun, oj, hoj, hall⟩ := mem_ready.1 hj
      have hun : ∀ e : Edge, e.on = i → ¬ (listed.getD e.on false = true) := fun e heq h1 => by
        have h0 := (mem_ready.1 hr).1
        rw [heq] at h1
        rcases Nat.lt_or_ge i listed.size with h' | h'
        · simp [h'] at h0 h1; rw [h0] at h1; cases h1
        · simp [Array.getElem?_eq_none h'] at h1
      have hnot : ∀ e ∈ oj.after, Region.binds md e = true → e.on ≠ i := fun e he hb heq => hun e heq (by simpa using hall e he hb)
      have hjs : j ≠ s := by
        rintro rfl
        obtain ⟨e, he, hb, heq | ⟨om, hom, e', he', hb', heq⟩⟩ := hwait oj hoj
        · exact hnot e he hb heq
        · exact hun e' heq (hdn _ om hom (by simpa using hall e he hb) e' he' hb')
      have h2 := wpOp_putIf hoj (hfree j oj hoj hji hjun hnot) (fun cs b => hsel i oi cs b hi) (fun cs b => hsel j oj cs b hoj) hQ hy h1
      have hfree' : ∀ k ok, ops[k]? = some ok → k ≠ i → (listed.setIfInBounds j true).getD k true = false →
          (∀ e ∈ ok.after, Region.binds md e = true → e.on ≠ i) → oi.apart ops ok = true := fun k ok hk hki hun hno => by
        refine hfree k ok hk hki ?_ hno
        by_cases hjk : j = k
        · subst hjk; exact hjun
        · rw [getD_set_ne true hjk] at hun; exact hun
      have hl1 : (listed.setIfInBounds j true).getD s false = false := by rw [getD_set_self hjs]; exact hl
      have hl2 : ((listed.setIfInBounds i true).setIfInBounds j true).getD s false = false := by rw [getD_set_self hjs, getD_set_self his]; exact hl
      refine wpOp_mono (fun a' w' h3 => ⟨fun _ => h3.2.1 hl2, ih (listed.setIfInBounds j true) a' w' hfree' (ready_mono hr (Ne.symm hji)) (hdn.set hj) hl1 h3.1 (h3.2.1 hl2) ?_⟩) h2
      rw [Array.setIfInBounds_comm _ _ hji]
      exact h3.2.2
end

def waitsB (L : Array Oper) (s i : Nat) : Bool := !(Nat.beq i s) && (match L[s]? with | some o => o.after.toList.any (fun e => Region.binds .any e && (Nat.beq e.on i || (match L[e.on]? with | some m => m.after.toList.any (fun e' => Region.binds .any e' && Nat.beq e'.on i) | none => false))) | none => true)
section
variable {P : Program} {n : Fr} {L : List Oper} {Q : Exit → Act → World → Prop} {kn : Kn} {w : World} {S : World → Prop} {s : Nat} {late : Bool}
def vK (P : Program) (n : Fr) (L : List Oper) (Q : Exit → Act → World → Prop) (s : Nat) (S : World → Prop) (late : Bool) (plan : List (Nat × Bool)) (kn : Kn) (w : World) : Prop :=
  ∀ a listed, okQ Q → Region.noSelect L.toArray = true → K n kn a → planD L.toArray plan listed = true → listed.getD s false = late → listed.size = L.length → DownL .any L.toArray listed → wpAnyK P .any L.toArray Q s S plan.length listed a w
def NK (P : Program) (L : List Oper) (Q : Exit → Act → World → Prop) (s : Nat) (S : World → Prop) (late : Bool) (plan : List (Nat × Bool)) (a : Act) (w : World) : Prop :=
  (late = false → S w) ∧ (okQ Q → Region.noSelect L.toArray = true → ∀ listed, planD L.toArray plan listed = true → listed.getD s false = late → listed.size = L.length → DownL .any L.toArray listed → wpAnyK P .any L.toArray Q s S plan.length listed a w)
theorem vk_next {plan : List (Nat × Bool)} (hS : S w) (h : S w → vK P n L Q s S false plan kn w) : vN n (NK P L Q s S false plan) kn w := fun a ha => ⟨fun _ => hS, fun hQ hsel listed hl hs hz hdn => h hS a listed hQ hsel ha hl hs hz hdn⟩
theorem vk_late {plan : List (Nat × Bool)} (h : vK P n L Q s S true plan kn w) : vN n (NK P L Q s S true plan) kn w := fun a ha => ⟨(fun h => by cases h), fun hQ hsel listed hl hs hz hdn => h a listed hQ hsel ha hl hs hz hdn⟩
theorem vk_end (h : vcQ n Q .normal kn w) : vK P n L Q s S late [] kn w := fun a listed hQ hsel ha hl hs hz hdn => by
  simp only [planD, List.isEmpty_iff] at hl
  exact ⟨hl, h a ha⟩
theorem waits_spec {ops : Array Oper} {s i : Nat} (h : waitsB ops s i = true) : i ≠ s ∧ ∀ os, ops[s]? = some os → ∃ e ∈ os.after, Region.binds .any e = true ∧ (e.on = i ∨ ∃ om, ops[e.on]? = some om ∧ ∃ e' ∈ om.after, Region.binds .any e' = true ∧ e'.on = i) := by
  unfold waitsB at h
  simp only [Bool.and_eq_true, Bool.not_eq_true'] at h
  refine ⟨(fun e => by subst e; simp at h), fun os hos => ?_⟩
  rw [hos] at h
  obtain ⟨e, he, h2⟩ := List.any_eq_true.1 h.2
  simp only [Bool.and_eq_true] at h2
  simp only [Bool.or_eq_true] at h2
  refine ⟨e, by simpa using he, h2.1, ?_⟩
  rcases h2.2 with h3 | h3
  · exact .inl (Nat.eq_of_beq_eq_true h3)
  · right
    cases hm : ops[e.on]? with
    | none => rw [hm] at h3; cases h3
    | some om =>
      rw [hm] at h3
      obtain ⟨e', he', h4⟩ := List.any_eq_true.1 h3
      simp only [Bool.and_eq_true] at h4
      exact ⟨om, rfl, e', by simpa using he', h4.1, Nat.eq_of_beq_eq_true h4.2⟩
theorem vk_take {i : Nat} {o : Oper} {v : Value} {r : List (Nat × Bool)} (hi : nth L i = some o) (hw : gd L kn o.guard = some true) (hd : okDst n o.dst = true) (hwt : waitsB L.toArray s i = true)
    (hS : S w) (y : ∀ w', S w' → Y P n kn w' o v) (next : vK P n L Q s S false r (put o.dst v kn) w) : vK P n L Q s S false ((i, true) :: r) kn w := by
  intro a listed hQ hsel ha hl hs hz hdn
  simp only [planD, Bool.and_eq_true] at hl
  rw [nth_eq] at hi
  obtain ⟨h1, h2⟩ := waits_spec hwt
  exact wpAnyK_first (oi := o) (v := v) (by simpa using hi) (Region.noSelect_spec hsel) (fun c a w h => hQ c _ _ w (put_defers _ _ _) h) h1 h2 _ listed a w (Region.free_spec (by simpa using hi) hl.1.2) (by simpa using hl.1.1) hdn hs
    (.inl ⟨ha.gd hw, fun w' hS' => y w' hS' a ha⟩) hS (next _ _ hQ hsel (ha.put hd v) hl.2 (by rw [getD_set_self h1]; exact hs) (by simpa using hz) (hdn.set (by simpa using hl.1.1)))
theorem vk_takeU {i : Nat} {o : Oper} {v : Value} {r : List (Nat × Bool)} (hi : nth L i = some o) (hw : gd L kn o.guard = some true) (hd : okDst n o.dst = true) (his : Nat.beq i s = false)
    (hS : late = false → S w) (y : ∀ w', Y P n kn w' o v) (next : vK P n L Q s S late r (put o.dst v kn) w) : vK P n L Q s S late ((i, true) :: r) kn w := by
  intro a listed hQ hsel ha hl hs hz hdn
  simp only [planD, Bool.and_eq_true] at hl
  rw [nth_eq] at hi
  have h1 : i ≠ s := fun e => by subst e; simp at his
  exact wpAnyK_firstU (oi := o) (v := v) (by simpa using hi) (Region.noSelect_spec hsel) (fun c a w h => hQ c _ _ w (put_defers _ _ _) h) h1 _ listed a w (Region.free_spec (by simpa using hi) hl.1.2) (by simpa using hl.1.1)
    (.inl ⟨ha.gd hw, fun w' _ => y w' a ha⟩) (fun h => hS (by rw [← hs]; exact h)) (next _ _ hQ hsel (ha.put hd v) hl.2 (by rw [getD_set_self h1]; exact hs) (by simpa using hz) (hdn.set (by simpa using hl.1.1)))
theorem vk_do {i : Nat} {o : Oper} {r : List (Nat × Bool)} (hi : nth L i = some o) (hlt : Nat.blt i L.length = true) (e : vS P n L Q o (NK P L Q s S (late || Nat.beq i s) r) kn w) : vK P n L Q s S late ((i, false) :: r) kn w := by
  intro a listed hQ hsel ha hl hs hz hdn
  simp only [planD, Bool.and_eq_true, beq_iff_eq] at hl
  rw [nth_eq] at hi
  refine ⟨(fun h => by rw [hl.1] at h; cases h), fun j hj => ?_⟩
  rw [hl.1] at hj
  obtain rfl : j = i := by simpa using hj
  have hlate : (listed.setIfInBounds j true).getD s false = (late || Nat.beq j s) := by
    by_cases hjs : j = s
    · subst hjs
      have : j < listed.size := by rw [hz]; simpa [Nat.blt_eq] using hlt
      simp [this]
    · rw [getD_set_self hjs, hs]
      cases h : Nat.beq j s
      · simp
      · exact absurd (Nat.eq_of_beq_eq_true h) hjs
  have he := e a ha
  unfold wpOp
  simp only [List.getElem?_toArray, hi]
  split
  · rename_i hw
    rw [if_pos hw] at he
    exact he.imp (Oper.wp_mono (fun a' w' h => ⟨fun h2 => h.1 (by rw [← hlate]; exact h2), h.2 hQ hsel _ hl.2 hlate (by simpa using hz) (hdn.set (by rw [hl.1]; simp))⟩)) id
  · rename_i hw
    rw [if_neg hw] at he
    exact ⟨fun h2 => he.1 (by rw [← hlate]; exact h2), he.2 hQ hsel _ hl.2 hlate (by simpa using hz) (hdn.set (by rw [hl.1]; simp))⟩
theorem vk_draw {id : Nat} (hm : P.follows .mixedOrders = true) (plan : List (Nat × Bool)) (s : Nat) (S : World → Prop) (hS0 : S w) (hsel : Region.noSelect L.toArray = true) (hQ : okQ Q) (hlen : plan.length = L.length) (hplan : planD L.toArray plan (Array.replicate L.length false) = true) (hs : Nat.blt s L.length = true)
    (h : ∀ w', Chg [] w w' → vK P n L Q s S false plan kn w') : vcC P n (.region id L.toArray true) Q kn w := by
  intro a ha
  refine wp_region_any hm (wpAny_of_K (s := s) (S := S) _ _ _ _ ?_)
  have hs' : s < L.length := by simpa [Nat.blt_eq] using hs
  have := h w.drew (Chg.drew w) a (Array.replicate L.length false) hQ hsel ha hplan (by simp [hs']) (by simp) (DownL.none _)
  rw [hlen] at this
  rw [List.size_toArray]
  exact this
end
end Sx


namespace Go.Proofs.YtggnfanphcaamaaGreatDoor
open Go.RowKit Sx LexS ParS
set_option linter.unusedVariables false
set_option linter.unusedSimpArgs false
theorem Tryz.info50 : Tryz.prog.info? 50 = some Tryz.t50 := by kernel_rfl
/-- a thread's value -/
def HT (w : World) (t : Th) (v : Value) (w' : World) : Prop := ∃ ol ob cl cb Sq, v = .agg (thC t ol ob cl cb).toArray ∧ ThS 60 56 52 w' t (thC t ol ob cl cb) Sq ∧ Nw w.heap.size Sq
theorem hdecl (c : PCtx) (hR : c.R = 40) : Reader c 26 (declP c.e) := fun r hr w hC hP => pdecl_any c hR r hr w hC hP
theorem hinit (c : PCtx) (hR : c.R = 40) : Reader c 25 (initP c.e) := fun r hr w hC hP => pinit_any c hR r hr w hC hP
theorem holds_ths {w : World} {base : Nat} {s : Th} {l : List Value} {S : List Nat} (h : ThS 60 56 52 w s l S) : (Res.tree S fun w => ThS 60 56 52 w s l S).holds base w := holds_of h h.lt (fun a b h hk => h.kept hk)
theorem holds_thss {w : World} {base : Nat} {s : List Th} {l : List Value} {S : List Nat} (h : ThSs 60 56 52 w s l S) : (Res.tree S fun w => ThSs 60 56 52 w s l S).holds base w := holds_of h h.lt (fun a b h hk => h.kept hk)
/-- a new list of declarations reads as a row -/
theorem dcr_rd {w : World} {oa : Option Addr} {cap : Nat} {ds : List Dc} {S : List Nat} (h : DcR 52 w oa cap ds S) : RdRowC w oa (ds.flatMap dcL) := by
  obtain ⟨h1, -⟩ := h
  rcases Nat.eq_zero_or_pos ds.length with h0 | h0
  · exact .inl (by rw [List.eq_nil_of_length_eq_zero h0]; rfl)
  · obtain ⟨g, rfl⟩ := own_some h1 h0
    exact .inr ⟨_, rfl, fun k u hk => by rw [addr_add, Nat.zero_add]; exact own_cell h1 hk⟩
/-- the locals of a thread, so many having come -/
def contLo (e n : Nat) (acc : List Dc) (r : List Tok) : PR (List Dc) := match localsP e n r with
  | .error f => .error f
  | .ok (l, r') => .ok (acc ++ l, r')
theorem contLo_nil (e n : Nat) (r : List Tok) : localsP e n r = contLo e n [] r := by unfold contLo; cases localsP e n r with | error f => rfl | ok p => rfl
theorem contLo_end {e n : Nat} {acc : List Dc} {r : List Tok} (h : isT wLocal r = false) : contLo e (n + 1) acc r = .ok (acc, r) := by
  simp only [contLo, localsP, if_neg (show ¬ isT wLocal r = true by simp [h]), List.append_nil]
theorem contLo_step {e n : Nat} {acc : List Dc} {r : List Tok} (h : isT wLocal r = true) : contLo e (n + 1) acc r = match listP e (declP e) (r.length + 1) r.tail with
    | .error f => .error f
    | .ok (l, r') => contLo e n (acc ++ l) r' := by
  simp only [contLo, localsP, if_pos h]
  cases listP e (declP e) (r.length + 1) r.tail with
  | error f => rfl
  | ok p =>
    simp only
    cases localsP e n p.2 with
    | error f => rfl
    | ok q => simp
theorem threadP_eq (e : Nat) (ts : List Tok) : threadP e ts = match nameP e ts with
    | .error f => .error f
    | .ok (t, r) => match want e [123] r with
      | .error f => .error f
      | .ok r1 => match contLo e (r1.length + 1) [] r1 with
        | .error f => .error f
        | .ok (l, r2) => match restP e 63 r2 with
          | .error f => .error f
          | .ok (b, r3) => .ok (⟨t.text, l, b, (t.at_ : Int)⟩, r3) := by
  unfold threadP
  cases nameP e ts with
  | error f => rfl
  | ok p =>
    simp only
    cases want e [123] p.2 with
    | error f => rfl
    | ok r1 => simp only; rw [← contLo_nil]; rfl
/-- how many a list has: no more than the tokens it goes over -/
theorem listP_len (e : Nat) (one : List Tok → PR Dc) (h1 : ∀ r x r', one r = .ok (x, r') → r'.length < r.length) : ∀ (n : Nat) (r : List Tok) (l : List Dc) (r' : List Tok), listP e one n r = .ok (l, r') → l.length + r'.length ≤ r.length
  | 0, r, l, r', h => by simp [listP] at h
  | n + 1, r, l, r', h => by
    simp only [listP] at h
    cases ho : one r with
    | error f => rw [ho] at h; cases h
    | ok p =>
      obtain ⟨x, r1⟩ := p
      have hl := h1 _ _ _ ho
      rw [ho] at h; simp only at h
      split at h
      · rename_i hc
        have ht := tail_lt (isT_ne hc)
        cases hq : listP e one n r1.tail with
        | error f => rw [hq] at h; cases h
        | ok q =>
          obtain ⟨l2, r2⟩ := q
          rw [hq] at h; cases h
          have := listP_len e one h1 n _ _ _ hq
          simp; omega
      · cases hq : want e [59] r1 with
        | error f => rw [hq] at h; cases h
        | ok r2 =>
          rw [hq] at h; cases h
          obtain ⟨hc, rfl⟩ := want_ok hq
          have ht := tail_lt (isT_ne hc)
          simp; omega
theorem nameP_len {e : Nat} {r r' : List Tok} {t : Tok} (h : nameP e r = .ok (t, r')) : r'.length < r.length := by
  unfold nameP at h; split at h
  · rename_i hk; cases h; exact tail_lt (kind_ne hk (by decide))
  · cases h
theorem declP_len {e : Nat} (r : List Tok) (x : Dc) (r' : List Tok) (h : declP e r = .ok (x, r')) : r'.length < r.length := by
  unfold declP at h
  cases hn : nameP e r with
  | error f => rw [hn] at h; cases h
  | ok p => rw [hn] at h; cases h; exact nameP_len hn
theorem initP_len {e : Nat} (r : List Tok) (x : Dc) (r' : List Tok) (h : initP e r = .ok (x, r')) : r'.length < r.length := by
  unfold initP at h
  cases hn : nameP e r with
  | error f => rw [hn] at h; cases h
  | ok p =>
    obtain ⟨t, r1⟩ := p
    have hl := nameP_len hn
    rw [hn] at h; simp only at h
    split at h
    · rename_i hc
      have ht := tail_lt (isT_ne hc)
      obtain ⟨R, hR⟩ : ∃ R, R = (if isT [45] r1.tail = true then r1.tail.tail else r1.tail) := ⟨_, rfl⟩
      have h4 : R.length ≤ r1.tail.length := by
        rw [hR]; split
        · rw [List.length_tail]; omega
        · exact Nat.le_refl _
      rw [← hR] at h
      cases hw : wordP e (isT [45] r1.tail) R with
      | error f => rw [hw] at h; cases h
      | ok q =>
        rw [hw] at h; cases h
        unfold wordP at hw; split at hw
        · rename_i hk
          cases hw
          have h3 := tail_lt (kind_ne hk (by decide))
          simp only at hl ⊢
          omega
        · cases hw
    · cases h; simpa using hl

set_option maxHeartbeats 1000000 in
theorem pthread_any (c : PCtx) (hR : c.R = 40) (hg : c.g = 1) (r : List Tok) (hr : r <:+ c.ts) (w : World) (hC : PCok c w) (hP : PAt c r w) : RetP Tryz.prog 28 [.pointer (some ⟨c.pb, 0, none⟩)] w
    (PRes c r (threadP c.e r) [c.pb] w (HT w)) (PErr c (threadP c.e r) [c.pb] w) := by
  refine retp_of [_] Tryz.func28 rfl Tryz.ntmps28 rfl ?_
  
  obtain ⟨w0, rfl⟩ : ∃ w0, w0 = w := ⟨_, rfl⟩
  have hP' := hP
  dsimp only [PAt, pcell] at hP
  have st := St.of1 [c.pb] hP
  have h20 := hC.len
  have hl := suf_len hr
  have hs := threadP_eq c.e r
  replace st := st.ownNil 52 3
  refine vc_seq (vc_region ?_)
  refine vc_e (e_al (l := [_, _, _, _]) st rfl rfl Tryz.zeroValue50 rfl ?_)
  intro b2 w hb2 st
  refine vc_end (vq_then (vc_keep [(0, _), (2, _)] ⟨rfl, rfl, trivial⟩ (vc_seq (vc_region ?_))))
  refine vc_y rfl rfl (y_mv rfl) ?_
  refine vc_e (e_callp [_] rfl rfl Tryz.call44 rfl (pname_any c hR r hr _ (hC.k1 st.chg) (by exact st.res (i := 2) rfl)) (by rintro _ w' ⟨f, hf, rfl, ch⟩ a ha; exact And.intro ha (Or.inr ⟨_, rfl, f, by rw [hs, hf], rfl, st.chg.trans ch⟩)) ?_)
  rintro _ w ⟨t, r1, hx, hsf, hln, hP1, cw, rfl⟩
  replace st := St.prs (b := c.pb) st 2 rfl cw (.inl (.head _)) hP1
  dsimp only [setNth] at st
  rw [hx] at hs; dsimp only at hs
  have hr1 := hsf.trans hr
  have hsfr1 := hsf
  have hlnr1 := hln
  refine vc_e (e_al (l := [_, _, _, _]) st rfl rfl Tryz.zeroValue82 rfl ?_)
  intro b3 w hb3 st
  refine vc_e (e_sts (vs := [_, _, _, _]) st 0 rfl rfl rfl rfl rfl Tryz.sizeOf82 rfl rfl (by first | (right; assumption) | (left; simp)) ?_)
  intro w st; dsimp only [setNth, wr] at st
  refine vc_end (vq_then (vc_keep [(0, _), (2, _), (3, _)] ⟨rfl, rfl, rfl, trivial⟩ (vc_seq (vc_region ?_))))
  refine vc_y rfl rfl ((by exact y_faz (k := 1) rfl Tryz.underlying82 rfl rfl Tryz.sizeOf9 rfl)) ?_
  refine vc_y rfl rfl ((by exact y_ld st 0 rfl Tryz.isAgg9 rfl rfl)) ?_
  refine vc_y rfl rfl ((by exact y_faz (k := 3) rfl Tryz.underlying82 rfl rfl Tryz.sizeOf3 rfl)) ?_
  refine vc_y rfl rfl ((by exact y_ld st 0 rfl Tryz.isAgg3 rfl rfl)) ?_
  refine vc_y rfl rfl (y_bld (.agg #[_, _, _, _]) [(0, _), (3, _)] rfl (fun w => by simp [Instr.build, go_sem] <;> repeat' constructor)) ?_
  refine vc_e (e_al (l := [_, _, _, _]) st rfl rfl Tryz.zeroValue50 rfl ?_)
  intro b4 w hb4 st
  refine vc_e (e_sts (vs := [_, _, _, _]) st 0 rfl rfl rfl rfl rfl Tryz.sizeOf50 rfl rfl (by first | (right; assumption) | (left; simp)) ?_)
  intro w st; dsimp only [setNth, wr] at st
  refine vc_end (vq_then (vc_keep [(0, _), (2, _), (4, _)] ⟨rfl, rfl, rfl, trivial⟩ (vc_seq (vc_region ?_))))
  refine vc_y rfl rfl (y_mv rfl) ?_
  refine vc_e (e_bs1 (l := [_]) st rfl rfl rfl rfl Tryz.underlying96 Tryz.sizeOf9 rfl rfl rfl Tryz.zeroValue9 ?_)
  intro b13 w hb13 st
  refine vc_e (e_callp [_, _] rfl rfl Tryz.call41 rfl (pwant_any c [[123]] (by simp) _ _ _ _ rfl r1 hr1 _ (hC.k1 st.chg) (by exact st.res (i := 5) rfl) hR (st.res (i := 0) rfl) (by exact st.bne 0 5 (by decide) rfl rfl)) (by rintro _ w' ⟨f, hf, rfl, ch⟩ a ha; rw [wantL_one] at hf; exact And.intro ha (Or.inr ⟨_, rfl, f, by rw [hs, hf], rfl, st.chg.trans ch⟩)) ?_)
  rintro _ w ⟨r2, hx, hsfr2, hlnr2, hP1, cw⟩
  rw [wantL_one] at hx
  rw [hx] at hs; dsimp only at hs
  replace st := St.prs (b := c.pb) st 5 rfl cw (.inl (.head _)) hP1
  dsimp only [setNth] at st
  have hr2 := hsfr2.trans hr1
  refine vc_end (vq_then (vc_keep [(0, _), (2, _), (4, _)] ⟨rfl, rfl, rfl, trivial⟩ (vc_seq (vc_block ?_))))
  refine vc_loop (w0 := w0) (M := [c.pb]) (fun (y : List Dc × List Tok × Nat × Option Addr × Nat) => [(0, .pointer (some ⟨c.pb, 0, none⟩)), (2, .pointer (some ⟨b2, 0, none⟩)), (4, .pointer (some ⟨b4, 0, none⟩))]) (fun y => [.blk b4 (.cells [str t.text, .slice y.2.2.2.1 y.1.length y.2.2.2.2, .slice none 0 0, .int .i64 (t.at_ : Int)].toArray 50 (0, 0)), .own (.slice y.2.2.2.1 y.1.length y.2.2.2.2) 52 3 y.1.length (y.1.flatMap dcL), .blk b2 (.cells [str [], .slice none 0 0, .slice none 0 0, .int .i64 0].toArray 50 (0, 0)), .blk c.pb (.cells (pcell c y.2.1).toArray c.T (0, 0))]) (fun y _ => y.2.1 <:+ r2 ∧ y.2.1.length + y.1.length ≤ r2.length ∧ y.2.1.length < y.2.2.1 ∧ contLo c.e (r2.length + 1) [] r2 = contLo c.e y.2.2.1 y.1 y.2.1) (fun y => y.2.1.length) ([], r2, r2.length + 1, none, 0) ⟨rfl, rfl, rfl, trivial⟩ (st.pick [1, 4, 3, 5] rfl (by decide)) ⟨List.suffix_refl _, by simp, by simp, rfl⟩ ?_
  clear st
  rintro ⟨acc, r3, k, oq, cq⟩ w ⟨hsf3, hl3, hk3, hlo⟩ st
  dsimp only at hsf3 hl3 hk3 hlo st
  have hr3 := hsf3.trans hr2
  obtain ⟨k, rfl⟩ : ∃ j, k = j + 1 := ⟨k - 1, by omega⟩
  refine vc_seq (vc_seq (vc_region ?_))
  refine vc_y rfl rfl (y_mv rfl) ?_
  refine vc_e (e_call [_, _] rfl rfl Tryz.call23 rfl (ptake_any c wLocal r3 hr3 _ (hC.k1 st.chg) (by exact st.res (i := 3) rfl)) ?_)
  rintro _ w ⟨rfl, hP1, cw⟩
  replace st := St.prs (b := c.pb) st 3 rfl cw (.inl (.head _)) hP1
  dsimp only [setNth] at st
  refine vc_end (vq_then (vc_keep [(0, _), (2, _), (4, _), (16, _)] ⟨rfl, rfl, rfl, rfl, trivial⟩ ?_))
  refine vc_ifs rfl ?_ ?_
  · intro hc16
    try simp only [dn] at hc16
    simp only [hc16, if_true] at st
    have ht := tail_lt (isT_ne hc16)
    have hr3t := suf_tail hr3
    rw [hlo, contLo_step hc16] at hs
    have h40 := hr2.length_le
    refine vc_code_skip (vq_then (vc_keep [(0, _), (2, _), (4, _)] ⟨rfl, rfl, rfl, trivial⟩ (vc_block ?_)))
    refine vk_draw Tryz.mixed [(0, true), (2, true), (3, true), (4, true), (1, true), (5, false), (6, false), (7, true), (8, false)] 8 (fun w => St _ _ [.blk b4 (.cells [str t.text, .slice oq acc.length cq, .slice none 0 0, .int .i64 (t.at_ : Int)].toArray 50 (0, 0))] w) (by exact st.drop (by repeat (first | exact sl0 | apply sl1 | apply sl2))) (by kernel_rfl) (by repeat (first | exact okQ_noPan | exact okQ_body | exact okQ_bodyS | refine okQ_then ?_ | refine okQ_block ?_)) rfl (by kernel_rfl) rfl ?_
    intro w cd; replace st := st.call0 cd; clear cd
    have hS : St _ _ [.blk b4 (.cells [str t.text, .slice oq acc.length cq, .slice none 0 0, .int .i64 (t.at_ : Int)].toArray 50 (0, 0))] w := (by exact st.drop (by repeat (first | exact sl0 | apply sl1 | apply sl2)))
    refine vk_takeU rfl rfl rfl rfl (fun _ => hS) (fun w => (by exact y_faz (k := 1) rfl Tryz.underlying50 rfl rfl Tryz.sizeOf22 rfl)) ?_
    iterate 2 refine vk_takeU rfl rfl rfl rfl (fun _ => hS) (fun w => y_mv rfl) ?_
    refine vk_takeU rfl rfl rfl rfl (fun _ => hS) (fun w => y_mf [_] [] rfl rfl) ?_
    refine vk_take rfl rfl rfl rfl hS (fun w st => (by exact y_ld st 0 rfl Tryz.isAgg22 rfl rfl)) ?_
    refine vk_do rfl rfl (e_callp [_, _] rfl rfl Tryz.call24 rfl (plist_any c hR 26 (declP c.e) Tryz.call26 (hdecl c hR) (r3.length + 1) r3.tail (by rw [List.length_tail]; omega) hr3t _ (hC.k1 st.chg) (by exact st.res (i := 3) rfl)) (by rintro _ w' ⟨f, hf, rfl, ch⟩ a ha; exact And.intro ha (Or.inr ⟨_, rfl, f, by rw [hs, hf], rfl, st.chg.trans ch⟩)) ?_)
    rintro _ w ⟨l, r4, hx, hsfr4, hlnr4, hP1, cw, oD, cD, SD, rfl, hQ, hN⟩
    have hNSD := hN.le st.chg.size
    replace st := St.prsT (b := c.pb) st 3 rfl cw (.inl (.head _)) hP1 (holds_dc hQ) hN.2
    dsimp only [setNth] at st
    rw [hx] at hs; dsimp only at hs
    have hr4 := hsfr4.trans hr3t
    have hll := listP_len c.e _ declP_len _ _ _ _ (by assumption)
    refine vk_next (by exact st.drop (by repeat (first | exact sl0 | apply sl1 | apply sl2))) ?_; intro hS
    refine vk_do rfl rfl (e_appr (bytes := 32) (len' := (acc ++ l).length) (ys := (acc ++ l).flatMap dcL) st 2 rfl rfl rfl rfl rfl (dcr_rd (st.res (i := 0) rfl).1) Tryz.underlying22 Tryz.info52 rfl rfl rfl rfl rfl (dcs_len l) (dcs_one l) (by unfold maxLen; omega) (by omega) (by simp) (by simp) ?_)
    intro oaQ capQ w st; dsimp only [setNth] at st
    refine vk_next (by exact st.drop (by repeat (first | exact sl0 | apply sl1 | apply sl2))) ?_; intro hS
    refine vk_takeU rfl rfl rfl rfl (fun _ => hS) (fun w => (by exact y_faz (k := 1) rfl Tryz.underlying50 rfl rfl Tryz.sizeOf22 rfl)) ?_
    refine vk_do rfl rfl (e_st st 1 rfl rfl rfl rfl Tryz.sizeOf22 rfl rfl (by first | (right; assumption) | (left; simp)) ?_)
    intro w st; dsimp only [setNth, wr] at st
    refine vk_late ?_
    refine vk_end ?_
    refine vq_block ?_
    refine vq_again (acc ++ l, r4, k, oaQ, capQ)  ⟨rfl, rfl, rfl, trivial⟩ (st.pick [1, 2, 3, 4] rfl (by decide)) ?_ ?_
    · exact ⟨(hsfr4.trans (List.tail_suffix _)).trans hsf3, by simp; omega, by dsimp only; omega, by rw [hlo, contLo_step hc16, (by assumption : listP c.e (declP c.e) (r3.length + 1) r3.tail = _)]⟩
    · dsimp only; omega
  · intro hc16
    try simp only [dn] at hc16
    simp only [hc16, Bool.false_eq_true, if_false] at st
    rw [hlo, contLo_end hc16] at hs; dsimp only at hs
    refine vc_exit (vq_then_exit (vq_then_exit (vq_block_exit (vq_then (vc_keep [(0, _), (2, _), (4, _)] ⟨rfl, rfl, rfl, trivial⟩ (vc_seq (vc_region ?_)))))))
    refine vc_y rfl rfl (y_mv rfl) ?_
    refine vc_e (e_callp [_, _] rfl rfl Tryz.call45 rfl (prest_any c hR hg r3 hr3 _ (hC.k1 st.chg) (by exact st.res (i := 3) rfl)) (by rintro _ w' ⟨f, hf, rfl, ch⟩ a ha; exact And.intro ha (Or.inr ⟨_, rfl, f, by rw [hs, hf], rfl, st.chg.trans ch⟩)) ?_)
    rintro _ w ⟨l, r4, hx, hsfr4, hlnr4, hP1, cw, ob, cb, Sb, rfl, hQ, hN⟩
    have hNSb := hN.le st.chg.size
    replace st := St.prsT (b := c.pb) st 3 rfl cw (.inl (.head _)) hP1 (holds_sm hQ) hN.2
    dsimp only [setNth] at st
    rw [hx] at hs
    refine vc_y rfl rfl ((by exact y_faz (k := 2) rfl Tryz.underlying50 rfl rfl Tryz.sizeOf48 rfl)) ?_
    refine vc_e (e_st st 1 rfl rfl rfl rfl Tryz.sizeOf48 rfl rfl (by first | (right; assumption) | (left; simp)) ?_)
    intro w st; dsimp only [setNth, wr] at st
    refine vc_end (vq_then (vc_keep [(2, _), (4, _)] ⟨rfl, rfl, trivial⟩ (vc_seq (vc_region ?_))))
    refine vc_y rfl rfl ((by exact y_lda (vs := [_, _, _, _]) st 1 rfl Tryz.isAgg50 Tryz.sizeOf50 rfl rfl)) ?_
    refine vc_e (e_sts (vs := [_, _, _, _]) st 3 rfl rfl rfl rfl rfl Tryz.sizeOf50 rfl rfl (by first | (right; assumption) | (left; simp)) ?_)
    intro w st; dsimp only [setNth, wr] at st
    refine vc_end (vq_then (vc_keep [(2, _)] ⟨rfl, trivial⟩ (vc_ret ?_)))
    refine vq_ret1 st (.inl rfl) Tryz.results28 (by exact .cell 3 rfl rfl Tryz.isAgg50 Tryz.sizeOf50) ?_
    refine .inl ⟨_, rfl, ?_⟩
    have hown := st.ownNw (i := 2) rfl
    exact ⟨_, r4, hs, hsfr4.trans (hsf3.trans (hsfr2.trans hsfr1)), by have := hsf3.length_le; simp at hlnr2; omega, (by exact st.res (i := 4) rfl), st.chg, oq, ob, cq, cb, obk oq ++ Sb, rfl, ⟨oq, cq, ob, cb, obk oq, Sb, rfl, ⟨hown.1, rfl⟩, (st.res (i := 0) rfl).1, rfl⟩, hown.2.app hNSb (fun b hb => st.ne (i := 2) (j := 0) (by decide) rfl rfl b (by simpa [Res.at?, obk_own] using hb))⟩

end Go.Proofs.YtggnfanphcaamaaGreatDoor

