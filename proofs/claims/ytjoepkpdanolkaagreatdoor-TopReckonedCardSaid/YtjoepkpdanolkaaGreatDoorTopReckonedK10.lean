/- A part of the proof: contracts of functions and plain laws; each theorem says its own conditions. -/
import Derived.Test.YtjoepkpdanolkaaGreatDoorTopReckonedK2
import Derived.Test.YtjoepkpdanolkaaGreatDoorTopReckonedK9
import Derived.Test.YtjoepkpdanolkaaGreatDoorTopReckonedK1
set_option linter.unusedVariables false
set_option linter.unusedSimpArgs false
namespace Go.Proofs.YtjoepkpdanolkaaGreatDoor.Pq
open Go.RowKit Sx LexS ParS _root_.Go.Proofs.Tryz
theorem inner_kind {r : List Tok} (h : innerT r = true) : (here r).kind = 2 ∨ (here r).kind = 4 := by
 unfold innerT isT at h;simp only [Bool.or_eq_true, Bool.and_eq_true, decide_eq_true_eq] at h;rcases h with (h | h) | h <;> exact h.2
theorem unary_out {e m : Nat} {r : List Tok} (h : innerT r = false) : unaryP e m r = leafP e r := by
 cases m with
 | zero => simp only [unaryP]; rw [if_neg (by simp [h])]
 | succ m => simp only [unaryP]; rw [if_neg (by simp [h])]
theorem unary_deep {e : Nat} {r : List Tok} (h : innerT r = true) : unaryP e 0 r = fail e 3 r := by simp only [unaryP]; rw [if_pos h]
theorem unary_par {e m : Nat} {r : List Tok} (h : innerT r = true) (h2 : (here r).text = [40]) : unaryP e (m + 1) r = match exprW (unaryP e m) r.tail with
  | .error f => .error f
  | .ok (x, r1) => match want e [41] r1 with
   | .error f => .error f
   | .ok r2 => .ok (x, r2) := by
 simp only [unaryP]; rw [if_pos h, if_pos h2]; rfl
theorem unary_op {e m : Nat} {r : List Tok} (h : innerT r = true) (h2 : ¬ (here r).text = [40]) : unaryP e (m + 1) r = match unaryP e m r.tail with
  | .error f => .error f
  | .ok (x, r1) => .ok (.mk 3 (if (here r).text = [33] then 18 else 17) 0 [] [x] ((here r).at_ : Int), r1) := by
 simp only [unaryP]; rw [if_pos h, if_neg h2]; rfl
set_option maxHeartbeats 1000000 in
theorem punary_of (c : PCtx) (hR : c.R = 70) (d m : Nat) (hd : d + m = 64) (hE : ∀ k, m = k + 1 → DRead 19 c (d + 1) (exprW (unaryP c.e k))) (hU : ∀ k, m = k + 1 → DRead 35 c (d + 1) (unaryP c.e k)) : DRead 35 c d (unaryP c.e m) := by
 intro r hr w hC hP;refine retp_of [_, _] Tryz.func35 rfl Tryz.ntmps35 rfl ?_;obtain ⟨w0, rfl⟩ : ∃ w0, w0 = w := ⟨_, rfl⟩
 have hP' := hP;dsimp only [PAt, pcell] at hP;have st := St.of1 [c.pb] hP;have h20 := hC.len;have hl := suf_len hr;refine a2 ?_;refine vc_e (e_al (l := [_, _, _, _, _, _]) st rfl rfl Tryz.zeroValue27 rfl ?_);intro b4 w hb4 st;refine a5 ?_;refine vc_e (e_call [_] rfl rfl Tryz.call36 rfl (phere_any c r hr _ (hC.k1 st.chg) (by exact st.rs 1)) ?_);rintro _ w ⟨rfl, cw⟩;replace st := st.call0 cw;refine vc_e (e_al (l := [_, _, _, _]) st rfl rfl Tryz.zeroValue65 rfl ?_);intro b5 w hb5 st;refine vc_e (ests st 0 [_, _, _, _] Tryz.sizeOf65 ?_);intro w st; dsimp only [setNth, wr] at st;refine a2 ?_;refine vc_cut (w0 := w0) (M := [c.pb]) (fun (b : Bool) => [(0, .pointer (some ⟨c.pb, 0, none⟩)), (1, .int .i64 (d : Int)), (4, .pointer (some ⟨b4, 0, none⟩)), (5, .pointer (some ⟨b5, 0, none⟩)), (6, .bool b)]) (fun _ => [.blk b5 (.cells (tkL (here r)).toArray 65 (0, 0)), .blk b4 (.cells ex00.toArray 27 (0, 0)), .blk c.pb (.cells (pcell c r).toArray c.T (0, 0))]) (fun b _ => b = innerT r) ?_ ?_;refine a2 ?_;refine vc_e (e_call [_, _] rfl rfl Tryz.call87 rfl (pis_any c [45] r hr _ (hC.k1 st.chg) (by exact st.rs 2)) ?_);rintro _ w ⟨rfl, cw⟩;replace st := st.call0 cw;refine vmb ?_ ?_;intro hg13;(try simp only [dn] at hg13);refine a9 ?_;refine vq_meet true ⟨rfl, rfl, rfl, rfl, rfl, trivial⟩ st ?_;show true = _;unfold innerT; rw [hg13]; rfl;intro hg13;(try simp only [dn] at hg13);refine a1 ?_;refine vc_e (e_call [_, _] rfl rfl Tryz.call87 rfl (pis_any c [33] r hr _ (hC.k1 st.chg) (by exact st.rs 2)) ?_);rintro _ w ⟨rfl, cw⟩;replace st := st.call0 cw;refine a1 ?_;refine vmb ?_ ?_;intro hg17;(try simp only [dn] at hg17);refine a5 ?_;refine vq_meet true ⟨rfl, rfl, rfl, rfl, rfl, trivial⟩ st ?_;show true = _;unfold innerT; rw [hg17]; simp;intro hg17;(try simp only [dn] at hg17);refine a1 ?_;refine vc_e (e_call [_, _] rfl rfl Tryz.call87 rfl (pis_any c [40] r hr _ (hC.k1 st.chg) (by exact st.rs 2)) ?_);rintro _ w ⟨rfl, cw⟩;replace st := st.call0 cw;refine a3 ?_;refine vq_meet (isT [40] r) ⟨rfl, rfl, rfl, rfl, rfl, trivial⟩ st ?_;show isT [40] r = _;unfold innerT; rw [hg13, hg17]; rfl;clear st;rintro inn w hin st;refine a5 ?_;refine vmb ?_ ?_
 ·intro hg23;(try simp only [dn] at hg23);subst hg23;refine a6 ?_;refine vif ?_ ?_;intro hc21;(try simp only [dn] at hc21);have hd64 : d = 64 := by omega
  obtain rfl : m = 0 := by omega
  have hs := unary_deep (e := c.e) hin.symm;refine a2 ?_;refine vc_e (e_callp [_, _] rfl rfl Tryz.call20 rfl (pfail_any c 3 r hr _ (hC.k1 st.chg) (by exact st.rs 2) hR) (by rintro _ w' ⟨rfl, ch⟩ a ha; exact And.intro ha (Or.inr ⟨_, rfl, (atT c.e r, 3), by rw [hs]; rfl, rfl, st.chg.trans ch.of_nil⟩)) (fun _ _ h => h.elim));intro hc21;(try simp only [dn] at hc21);have hd64 : ¬ d = 64 := by omega
  obtain ⟨m, rfl⟩ : ∃ k, m = k + 1 := ⟨m - 1, by omega⟩
  refine a2 ?_;refine vy (y_fa0 rfl Tryz.underlying65 rfl rfl Tryz.sizeOf63 rfl) ?_;refine yl st 0 Tryz.isAgg63 ?_;refine a4 ?_;refine vif ?_ ?_;intro hc29;exfalso; have := inner_kind hin.symm; revert hc29; simp; omega;intro hc29;(try simp only [dn] at hc29);refine a2 ?_;refine vy (y_fa0 rfl Tryz.underlying65 rfl rfl Tryz.sizeOf63 rfl) ?_;refine yl st 0 Tryz.isAgg63 ?_;refine a4 ?_;refine vif ?_ ?_;intro hc40;exfalso; have := inner_kind hin.symm; revert hc40; simp; omega;intro hc40;(try simp only [dn] at hc40);refine a7 ?_;refine vif ?_ ?_;intro hc51;exfalso; revert hc51; simp;intro hc51;(try simp only [dn] at hc51);refine a6 ?_;refine vc_e (e_call [_] rfl rfl Tryz.call39 rfl (pnext_any c r hr (inner_ne hin.symm) _ (hC.k1 st.chg) (by exact st.rs 2)) ?_);rintro _ w ⟨rfl, hP1, cw⟩;replace st := St.prs (b := c.pb) st 2 rfl cw (.inl (.head _)) hP1;dsimp only [setNth] at st;refine a5 ?_;refine yfz 1 Tryz.underlying65 Tryz.sizeOf9 ?_;refine yl st 0 Tryz.isAgg9 ?_;refine a3 ?_;refine vif ?_ ?_;intro hc60;(try simp only [dn] at hc60);have hs := unary_par (e := c.e) (m := m) hin.symm hc60;have hne := inner_ne hin.symm;have hlt := tail_lt hne;have hr1 := suf_tail hr;refine a4 ?_;refine vy (yin ((d + 1 : Nat) : Int)) ?_;refine vc_e (e_callp [_, _] rfl rfl Tryz.call19 rfl (hE m rfl r.tail hr1 _ (hC.k1 st.chg) (by exact st.rs 2)) (by rintro _ w' ⟨f, hf, rfl, ch⟩ a ha; exact And.intro ha (Or.inr ⟨_, rfl, f, by rw [hs, hf], rfl, st.chg.trans ch⟩)) ?_);rintro _ w ⟨x, r2, hx, hsfr2, hlnr2, hP1, cw, ox, cx, Sx, rfl, hQ, hN⟩;have hNSx := hN.le st.chg.size;replace st := St.prsT (b := c.pb) st 2 rfl cw (.inl (.head _)) hP1 (holds_ex hQ) hN.2;dsimp only [setNth] at st;rw [hx] at hs; dsimp only at hs;refine vc_e (e_al (l := [_, _, _, _, _, _]) st rfl rfl Tryz.zeroValue27 rfl ?_);intro b7 w hb7 st;refine vc_e (ests st 0 [_, _, _, _, _, _] Tryz.sizeOf27 ?_);intro w st; dsimp only [setNth, wr] at st;refine a5 ?_;refine vc_e (e_bs1 (l := [_]) st rfl rfl rfl rfl Tryz.underlying188 Tryz.sizeOf9 rfl rfl rfl Tryz.zeroValue9 ?_);intro b66 w hb66 st;refine vc_e (e_callp [_, _] rfl rfl Tryz.call88 rfl (pwant_any c [[41]] (by simp) _ _ _ _ rfl r2 (hsfr2.trans hr1) _ (hC.k1 st.chg) (by exact st.rs 5) hR (st.res (i := 0) rfl) (by exact st.bne 0 5 (by decide) rfl rfl)) (by rintro _ w' ⟨f, hf, rfl, ch⟩ a ha; rw [wantL_one] at hf; exact And.intro ha (Or.inr ⟨_, rfl, f, by rw [hs, hf], rfl, st.chg.trans ch⟩)) ?_);rintro _ w ⟨r3, hx, hsfr3, hlnr3, hP1, cw⟩;rw [wantL_one] at hx;rw [hx] at hs; dsimp only at hs;replace st := St.prs (b := c.pb) st 5 rfl cw (.inl (.head _)) hP1;dsimp only [setNth] at st;have hr3 := hsfr3.trans (hsfr2.trans hr1);refine a4 ?_;refine yla st 1 [_, _, _, _, _, _] Tryz.isAgg27 Tryz.sizeOf27 ?_;refine vc_e (ests st 4 [_, _, _, _, _, _] Tryz.sizeOf27 ?_);intro w st; dsimp only [setNth, wr] at st;refine a4 ?_;refine vq_ret1 st (.inl rfl) Tryz.results35 (by exact .cell 4 rfl rfl Tryz.isAgg27 Tryz.sizeOf27) ?_;refine .inl ⟨_, rfl, ?_⟩
  exact ⟨x, r3, hs, (hsfr3.trans hsfr2).trans (List.tail_suffix _), by simp at hlnr3; omega, (by exact st.rs 5), st.chg, ox, cx, Sx, rfl, (by exact (st.res (i := 2) rfl).1), hNSx⟩;intro hc60;(try simp only [dn] at hc60);have hs := unary_op (e := c.e) (m := m) hin.symm hc60;have hne := inner_ne hin.symm;have hlt := tail_lt hne;have hr1 := suf_tail hr;refine a10 ?_;refine yfz 1 Tryz.underlying65 Tryz.sizeOf9 ?_;refine yl st 0 Tryz.isAgg9 ?_;refine a3 ?_;refine vif ?_ ?_;intro hc71;(try simp only [dn] at hc71);rw [if_pos hc71] at hs;refine a3 ?_
  rotate_left
  intro hc71;(try simp only [dn] at hc71);rw [if_neg hc71] at hs;refine a1 ?_
  all_goals
   refine a2 ?_;refine vdr Tryz.mixed [Yt 0, Yt 1, Yt 2, Yt 3, Yt 6, Yt 7, Nt 4, Nt 5, Yt 8, Nt 9] [.blk b5 (.cells (tkL (here r)).toArray 65 (0, 0))] st ?_;clear st; intro w st hS;(iterate 3 refine pm hS ?_);refine vp_take rfl rfl rfl hS (fun w st => yin ((d + 1 : Nat) : Int)) ?_;refine pfz hS 3 Tryz.underlying65 Tryz.sizeOf3 ?_;refine pld hS 0 Tryz.isAgg3 ?_;refine vp_do rfl (e_callp [_, _] rfl rfl Tryz.call35 rfl (hU m rfl r.tail hr1 _ (hC.k1 st.chg) (by exact st.rs 2)) (by rintro _ w' ⟨f, hf, rfl, ch⟩ a ha; exact And.intro ha (Or.inr ⟨_, rfl, f, by rw [hs, hf], rfl, st.chg.trans ch⟩)) ?_);rintro _ w ⟨x, r2, hx, hsfr2, hlnr2, hP1, cw, ox, cx, Sx, rfl, hQ, hN⟩;have hNSx := hN.le st.chg.size;replace st := St.prsT (b := c.pb) st 2 rfl cw (.inl (.head _)) hP1 (holds_ex hQ) hN.2;dsimp only [setNth] at st;rw [hx] at hs; dsimp only at hs;refine vp_next st.dr ?_; intro hS;refine vp_do rfl (e_bs1 (l := [_, _, _, _, _, _]) st rfl rfl rfl rfl Tryz.underlying25 Tryz.sizeOf27 rfl rfl rfl Tryz.zeroValue27 ?_);intro b77 w hb77 st;refine vp_next st.dr ?_; intro hS;refine vp_take rfl rfl rfl hS (fun w st => ybd (.agg #[_, _, _, _, _, _]) [(0, _), (1, _), (4, _), (5, _)]) ?_;refine vp_do rfl (ests st 3 [_, _, _, _, _, _] Tryz.sizeOf27 ?_);intro w st; dsimp only [setNth, wr] at st;refine vp_next st.dr ?_; intro hS;refine vp_end (vq_then (vc_ret ?_));refine vq_ret1 st (.inl rfl) Tryz.results35 (by exact .cell 3 rfl rfl Tryz.isAgg27 Tryz.sizeOf27) ?_;refine .inl ⟨_, rfl, ?_⟩;exact ⟨_, _, hs, hsfr2.trans (List.tail_suffix _), by omega, (by exact st.rs 4), st.chg, some ⟨b77, 0, none⟩, 1, b77 :: Sx, rfl, ex_one (st.res (i := 0) rfl) (st.res (i := 1) rfl).1, Nw.app (S := [b77]) ⟨by simp, by simpa using hb77⟩ hNSx (fun b hb hb' => st.ne (i := 0) (j := 1) (by decide) rfl rfl b hb hb')⟩
 intro hg23;(try simp only [dn] at hg23);subst hg23;refine a9 ?_;refine vy (y_fa0 rfl Tryz.underlying65 rfl rfl Tryz.sizeOf63 rfl) ?_;refine yl st 0 Tryz.isAgg63 ?_;refine a4 ?_;refine vif ?_ ?_;intro hc29;(try simp only [dn] at hc29);have hk : (here r).kind = 3 := by omega
 have hne := kind_ne hk (by decide);have hs := (unary_out (e := c.e) (m := m) hin.symm).trans (by unfold leafP; rw [if_pos hk]);refine a3 ?_;refine vc_e (e_call [_] rfl rfl Tryz.call39 rfl (pnext_any c r hr hne _ (hC.k1 st.chg) (by exact st.rs 2)) ?_);rintro _ w ⟨rfl, hP1, cw⟩;replace st := St.prs (b := c.pb) st 2 rfl cw (.inl (.head _)) hP1;dsimp only [setNth] at st;refine a4 ?_;refine yfz 2 Tryz.underlying65 Tryz.sizeOf2 ?_;refine yl st 0 Tryz.isAgg2 ?_;refine yfz 3 Tryz.underlying65 Tryz.sizeOf3 ?_;refine yl st 0 Tryz.isAgg3 ?_;refine vy (ybd (.agg #[_, _, _, _, _, _]) [(0, _), (2, _), (5, _)]) ?_;refine vc_e (ests st 1 [_, _, _, _, _, _] Tryz.sizeOf27 ?_);intro w st; dsimp only [setNth, wr] at st;refine a5 ?_;refine vq_ret1 st (.inl rfl) Tryz.results35 (by exact .cell 1 rfl rfl Tryz.isAgg27 Tryz.sizeOf27) ?_;refine .inl ⟨_, rfl, ?_⟩;exact ⟨_, _, hs, List.tail_suffix _, tail_lt hne, (by exact st.rs 2), st.chg, none, 0, [], rfl, ⟨[], [], World.ownsRow_nil _ _ _ _, rfl, rfl, rfl⟩, Nw.nil⟩;intro hc29;(try simp only [dn] at hc29);refine a2 ?_;refine vy (y_fa0 rfl Tryz.underlying65 rfl rfl Tryz.sizeOf63 rfl) ?_;refine yl st 0 Tryz.isAgg63 ?_;refine a4 ?_;refine vif ?_ ?_;intro hc40;(try simp only [dn] at hc40);have hk : (here r).kind = 1 := by omega
 have hne := kind_ne hk (by decide);have hs := (unary_out (e := c.e) (m := m) hin.symm).trans (by unfold leafP; rw [if_neg (by omega), if_pos hk]);refine a3 ?_;refine vc_e (e_call [_] rfl rfl Tryz.call39 rfl (pnext_any c r hr hne _ (hC.k1 st.chg) (by exact st.rs 2)) ?_);rintro _ w ⟨rfl, hP1, cw⟩;replace st := St.prs (b := c.pb) st 2 rfl cw (.inl (.head _)) hP1;dsimp only [setNth] at st;refine a4 ?_;refine yfz 1 Tryz.underlying65 Tryz.sizeOf9 ?_;refine yl st 0 Tryz.isAgg9 ?_;refine yfz 3 Tryz.underlying65 Tryz.sizeOf3 ?_;refine yl st 0 Tryz.isAgg3 ?_;refine vy (ybd (.agg #[_, _, _, _, _, _]) [(0, _), (3, _), (5, _)]) ?_;refine vc_e (ests st 1 [_, _, _, _, _, _] Tryz.sizeOf27 ?_);intro w st; dsimp only [setNth, wr] at st;refine a5 ?_;refine vq_ret1 st (.inl rfl) Tryz.results35 (by exact .cell 1 rfl rfl Tryz.isAgg27 Tryz.sizeOf27) ?_;refine .inl ⟨_, rfl, ?_⟩;exact ⟨_, _, hs, List.tail_suffix _, tail_lt hne, (by exact st.rs 2), st.chg, none, 0, [], rfl, ⟨[], [], World.ownsRow_nil _ _ _ _, rfl, rfl, rfl⟩, Nw.nil⟩;intro hc40;(try simp only [dn] at hc40);refine a7 ?_;refine vif ?_ ?_;intro hc51;(try simp only [dn] at hc51);have hs := (unary_out (e := c.e) (m := m) hin.symm).trans (show leafP c.e r = fail c.e 2 r by unfold leafP; rw [if_neg (by omega), if_neg (by omega)]);refine a2 ?_;refine vc_e (e_callp [_, _] rfl rfl Tryz.call20 rfl (pfail_any c 2 r hr _ (hC.k1 st.chg) (by exact st.rs 2) hR) (by rintro _ w' ⟨rfl, ch⟩ a ha; exact And.intro ha (Or.inr ⟨_, rfl, (atT c.e r, 2), by rw [hs]; rfl, rfl, st.chg.trans ch.of_nil⟩)) (fun _ _ h => h.elim));intro hc51;exfalso; revert hc51; simp
end Go.Proofs.YtjoepkpdanolkaaGreatDoor.Pq


/- The engine, sixteenth part: a text that grows in somebody's memory: a struct of a byte slice and a flag. -/
namespace Sx
open Go Go.RowKit

/-- a row of cells that the callee does not own: its block may change -/
def frn (M : List Nat) (base E : Nat) (v : Value) (n : Nat) (xs : List Value) : Res := .tree v.ownBlock.toList fun w => w.ownsRow 0 E 1 v n xs ∧ ∀ k, v.ownBlock = some k → k ∈ M ∨ base ≤ k

theorem loc_owns (E n : Nat) (v : Value) (xs : List Value) : Loc v.ownBlock.toList fun w => w.ownsRow 0 E 1 v n xs := by
  intro w w' hs hk ⟨h1, h2⟩
  refine ⟨h1, h2.imp id fun ⟨g, cap, cur, e, hb, hc, hr⟩ => ⟨g, cap, cur, e, hb, ?_, hr⟩⟩
  rw [hk g (by rw [e]; simp [Value.ownBlock])]; exact hc

section
variable {w0 w w' : World} {M : List Nat} {hs : List Res}

theorem frn_holds {base' base E n : Nat} {v : Value} {xs : List Value} (ho : w.ownsRow 0 E 1 v n xs) (hm : ∀ k, v.ownBlock = some k → k ∈ M ∨ base ≤ k) : (frn M base E v n xs).holds base' w :=
  ⟨⟨ho, hm⟩, fun k hk => (World.ownsRow.lt ho k (by simpa using hk)).2, fun a b hs hk h => ⟨loc_owns E n v xs a b hs hk h.1, h.2⟩⟩

theorem St.appF (st : St w0 M hs w) {i E n n' : Nat} {v v' : Value} {xs xs' : List Value} (hi : nth hs i = some (frn M w0.heap.size E v n xs)) (hg : w.grownBy w' v.ownBlock)
    (hown : w'.ownsRow 0 E 1 v' n' xs') (hat : ∀ k, v'.ownBlock = some k → v.ownBlock = some k ∨ w.heap.size ≤ k) :
    St w0 M (setNth hs i (frn M w0.heap.size E v' n' xs')) w' := by
  obtain ⟨⟨h1, h2⟩, -⟩ := st.res hi
  refine st.swap hi (Chg.of_grownByO hg) (by simp [Res.at?, frn]) (fun k hk => h2 k (by simpa using hk)) (fun k hk => ?_) (frn_holds hown fun k hk => ?_)
  · simp only [Res.at?, frn, Option.mem_toList] at hk ⊢
    exact hat k hk
  · rcases hat k hk with h | h
    · exact h2 k h
    · exact .inr (Nat.le_trans st.chg.size h)

variable {P : Program} {n : Fr} {L : List Oper} {Q : Exit → Act → World → Prop} {kn : Kn} {N : Act → World → Prop}
variable {d ty : Nat} {pos : String} {aft : Array Edge} {g : Option (Nat × Bool)}

theorem slice_form {base E len : Nat} {v : Value} {xs : List Value} (ho : w.ownsRow base E 1 v len xs) : ∃ oa cap, v = .slice oa len cap := by
  rcases ho.2 with ⟨rfl, h0⟩ | ⟨g, cap, cur, rfl, _⟩
  · exact ⟨none, 0, by rw [h0]⟩
  · exact ⟨_, _, rfl⟩

/-- append(v, s...) to a row that is another's -/
theorem e_appsF (st : St w0 M hs w) (i : Nat) {T U E len : Nat} {x y : Operand} {v : Value} {xs : List Value} {p : List UInt8} {ti : TypeInfo} (hw : gd L kn g = some true) (hd : okDst n (some d) = true)
    (hx : evO kn x = some v) (hy : evO kn y = some (str p)) (hi : nth hs i = some (frn M w0.heap.size E v len xs))
    (ht : P.underlying T = some (.slice E)) (hu : P.underlying U = some .string) (hinfo : P.info? E = some ti) (hz : ti.zero = some (.int .u8 0)) (hsize : ti.size = 1) (hby : ti.bytes = 1)
    {len' : Nat} {ys : List Value} (hlen' : len + p.length = len') (hys : xs ++ bytesL p = ys) (h63 : len' ≤ 140737488355328)
    (next : ∀ oa cap w', St w0 M (setNth hs i (frn M w0.heap.size E (.slice oa len' cap) len' ys)) w' → vN n N ((d, .slice oa len' cap) :: kn) w') :
    vS P n L Q ⟨some d, .call ⟨.builtin .append, #[x, y], #[T, U]⟩, ty, pos, aft, g⟩ N kn w := by
  subst hlen' hys
  obtain ⟨v', w', hr, ho, hg, hat⟩ := app_str (P := P) (tyy := ty) 0 ht hu hinfo hz hsize hby (st.res hi).1.1 p (by unfold maxLen; omega) h63 (Nat.zero_le _)
  obtain ⟨oa, cap, rfl⟩ := slice_form ho
  refine e_bi [v, str p] hw hd (by simp [hx, hy]) (w' := w') (fun cs => ?_) (next oa cap w' (st.appF hi hg ho hat))
  simp only [builtin, Sem.run_bind, List.toArray, hr]
  rfl

/-- append(v, x) to a row that is another's: a row of new cells that is held -/
theorem e_appF (st : St w0 M hs w) (i j : Nat) {T E bytes m len c b : Nat} {x y : Operand} {v z : Value} {xs l : List Value} {fz : Nat × Nat} {ti : TypeInfo} (hw : gd L kn g = some true) (hd : okDst n (some d) = true)
    (hx : evO kn x = some v) (hy : evO kn y = some (.slice (some ⟨b, 0, none⟩) m c)) (hi : nth hs i = some (frn M w0.heap.size E v len xs)) (hj : nth hs j = some (.blk b (.cells l.toArray E fz)))
    (ht : P.underlying T = some (.slice E)) (hinfo : P.info? E = some ti) (hz : ti.zero = some z) (hsize : ti.size = 1) (hby : ti.bytes = bytes) (hzs : z.cells.size = 1)
    (hl : l.length = m * 1) (h1 : allOne l = true) (hm : Nat.blt 0 m = true) (h63 : len + m ≤ maxLen) (hbytes : (len + m) * bytes ≤ 140737488355328) {len' : Nat} {ys : List Value} (hlen' : len + m = len') (hys : xs ++ l = ys)
    (next : ∀ oa cap w', St w0 M (setNth hs i (frn M w0.heap.size E (.slice oa len' cap) len' ys)) w' → vN n N ((d, .slice oa len' cap) :: kn) w') :
    vS P n L Q ⟨some d, .call ⟨.builtin .append, #[x, y], #[T, T]⟩, ty, pos, aft, g⟩ N kn w := by
  subst hlen' hys
  have hb : w.heap[b]? = some (.cells l.toArray E fz) := st.res hj
  have hm' : 0 < m := by simpa [Nat.blt_eq] using hm
  obtain ⟨v', w', hr, hown, hg, hnil, hat⟩ := run_append_own_at (P := P) w 0 T ty E ti z 1 bytes ht hinfo hz hsize hby hzs (by omega) v len xs (st.res hi).1.1 ⟨b, 0, none⟩ m c l hl
    (fun k u hk => by rw [addr_add]; exact cell_blk hb (by rw [nth_eq]; simpa using hk)) (allOne_spec h1) h63 hbytes (Nat.zero_le _)
  obtain ⟨oa, cap, rfl⟩ := slice_form hown
  refine e_bi [v, .slice (some ⟨b, 0, none⟩) m c] hw hd (by simp [hx, hy]) (w' := w') (fun cs => ?_) (next oa cap w' (st.appF hi hg hown (fun k hk => by
    rcases hat with h | h
    · rw [h] at hk; exact .inl hk
    · rw [h] at hk; simp at hk; exact .inr (by omega))))
  simp only [builtin, Sem.run_bind, List.toArray, hr]
  rfl

/-! ## the text -/
variable {E n0 T bw : Nat} {v : Value} {F : List UInt8}
end
end Sx


/- The engine, seventeenth part: a byte slice in a box that a closure holds. -/
namespace Sx
open Go Go.RowKit
section
variable {w0 w w' : World} {M : List Nat} {hs : List Res} {E n0 T b n n' : Nat} {v v' : Value} {l l' : List UInt8} {xs xs' : List Value}

/-- a row that a callee has written on -/
def RowP (E : Nat) (v v' : Value) (n' : Nat) (xs' : List Value) (w w' : World) : Prop := w'.ownsRow 0 E 1 v' n' xs' ∧ Chg v.ownBlock.toList w w' ∧ ∀ k, v'.ownBlock = some k → v.ownBlock = some k ∨ w.heap.size ≤ k
theorem St.frnP (st : St w0 M hs w) {i : Nat} (hi : nth hs i = some (frn M w0.heap.size E v n xs)) (p : RowP E v v' n' xs' w w') : St w0 M (setNth hs i (frn M w0.heap.size E v' n' xs')) w' := by
  obtain ⟨⟨h1, h2⟩, -⟩ := st.res hi
  obtain ⟨p1, p2, p3⟩ := p
  refine st.swap hi p2 (by simp [Res.at?, frn]) (fun k hk => h2 k (by simpa using hk)) (fun k hk => ?_) (frn_holds p1 fun k hk => ?_)
  · simp only [Res.at?, frn, Option.mem_toList] at hk ⊢
    exact p3 k hk
  · rcases p3 k hk with h | h
    · exact h2 k h
    · exact .inr (Nat.le_trans st.chg.size h)
theorem St.frnInit (h : w.ownsRow 0 E 1 v n xs) : St w v.ownBlock.toList [frn v.ownBlock.toList w.heap.size E v n xs] w :=
  ⟨Chg.refl _ _, List.pairwise_singleton _ _, by
    intro r hr
    simp only [List.mem_singleton] at hr
    subst hr
    exact frn_holds h (fun k hk => .inl (Option.mem_toList.2 hk))⟩
theorem St.frnDone {v0 : Value} (st : St w0 v0.ownBlock.toList hs w) {i : Nat} (hi : nth hs i = some (frn v0.ownBlock.toList w0.heap.size E v n xs)) : RowP E v0 v n xs w0 w := by
  obtain ⟨⟨h1, h2⟩, -⟩ := st.res hi
  exact ⟨h1, st.chg, fun k hk => (h2 k hk).imp (fun h => by simpa using h) id⟩
theorem St.frnGet (st : St w0 M hs w) {i : Nat} (hi : nth hs i = some (frn M w0.heap.size E v n xs)) : w.ownsRow 0 E 1 v n xs := (st.res hi).1.1

theorem St.frnN (st : St w0 M hs w) {i : Nat} (hi : nth hs i = some (frn M w0.heap.size E v n xs)) (hM : ∀ k ∈ M, n0 ≤ k) (hn : n0 ≤ w0.heap.size) : ∀ k, v.ownBlock = some k → n0 ≤ k := fun k hk => by
  rcases (st.res hi).1.2 k hk with h | h
  · exact hM k h
  · omega
theorem St.split2 {q r s : Res} (st : St w0 M (q :: hs) w) (h1 : ∀ k ∈ r.at?, k ∈ q.at?) (h2 : ∀ k ∈ s.at?, k ∈ q.at?) (h3 : ∀ k ∈ r.at?, k ∉ s.at?) (hr : r.holds w0.heap.size w) (hs' : s.holds w0.heap.size w) : St w0 M (r :: s :: hs) w := by
  have hnd := List.pairwise_cons.1 st.nodup
  refine ⟨st.chg, List.pairwise_cons.2 ⟨fun x hx => ?_, List.pairwise_cons.2 ⟨fun x hx k hk => hnd.1 x hx k (h2 k hk), hnd.2⟩⟩, fun x hx => ?_⟩
  · rcases List.mem_cons.1 hx with rfl | hx
    · exact h3
    · exact fun k hk => hnd.1 x hx k (h1 k hk)
  · rcases List.mem_cons.1 hx with rfl | hx
    · exact hr
    · rcases List.mem_cons.1 hx with rfl | hx
      · exact hs'
      · exact st.here x (.tail _ hx)

def Bx (E n0 T b : Nat) (v : Value) (l : List UInt8) (w : World) : Prop := w.heap[b]? = some (.cells #[v] T (0, 0)) ∧ w.ownsRow 0 E 1 v l.length (bytesL l) ∧ n0 ≤ b ∧ ∀ k, v.ownBlock = some k → n0 ≤ k ∧ k ≠ b
def BxP (E n0 T b : Nat) (v v' : Value) (l' : List UInt8) (w w' : World) : Prop := Bx E n0 T b v' l' w' ∧ Chg (b :: v.ownBlock.toList) w w' ∧ ∀ k, v'.ownBlock = some k → v.ownBlock = some k ∨ w.heap.size ≤ k
theorem Bx.lt (h : Bx E n0 T b v l w) : ∀ k ∈ b :: v.ownBlock.toList, k < w.heap.size := by
  obtain ⟨hb, ho, h1, h2⟩ := h
  intro k hk
  rcases List.mem_cons.1 hk with rfl | hk
  · exact (Array.getElem?_eq_some_iff.1 hb).1
  · exact (World.ownsRow.lt ho k (by simpa using hk)).2
theorem Bx.notin (h : Bx E n0 T b v l w) {k : Nat} (hk : k < n0) : k ∉ b :: v.ownBlock.toList := by
  obtain ⟨hb, ho, h1, h2⟩ := h
  intro h
  rcases List.mem_cons.1 h with rfl | h
  · omega
  · have := (h2 k (by simpa using h)).1; omega
/-- the box and its row, of the heads of what is held -/
theorem St.bxGet (st : St w0 M (.blk b (.cells [v].toArray T (0, 0)) :: frn M w0.heap.size E v l.length (bytesL l) :: hs) w) (hb : n0 ≤ b) (hn : ∀ k, v.ownBlock = some k → n0 ≤ k) : Bx E n0 T b v l w := by
  have h1 : w.heap[b]? = some (.cells #[v] T (0, 0)) := st.res (i := 0) rfl
  refine ⟨h1, (st.res (i := 1) rfl).1.1, hb, fun k hk => ⟨hn k hk, fun e => ?_⟩⟩
  subst e
  exact apart_nth (i := 0) (j := 1) st.nodup (by simp) rfl rfl k (.head _) (Option.mem_toList.2 hk)
theorem St.bxCall (st : St w0 M (.blk b (.cells [v].toArray T (0, 0)) :: frn M w0.heap.size E v l.length (bytesL l) :: hs) w) (hm : b ∈ M ∨ w0.heap.size ≤ b) (p : BxP E n0 T b v v' l' w w') :
    St w0 M (.blk b (.cells [v'].toArray T (0, 0)) :: frn M w0.heap.size E v' l'.length (bytesL l') :: hs) w' ∧ ∀ k, v'.ownBlock = some k → n0 ≤ k := by
  obtain ⟨⟨q1, q2, q3, q4⟩, p2, p3⟩ := p
  have h1 : w.heap[b]? = some (.cells #[v] T (0, 0)) := st.res (i := 0) rfl
  obtain ⟨⟨h2, h3⟩, -⟩ := st.res (i := 1) rfl
  have hb : b < w.heap.size := (Array.getElem?_eq_some_iff.1 h1).1
  have st1 := st.join (q := .tree (b :: v.ownBlock.toList) (fun _ => True)) (fun k hk => (List.mem_cons.1 hk).imp (fun h => by simp [Res.at?, h]) id) ⟨trivial, fun k hk => by
    rcases List.mem_cons.1 hk with rfl | hk
    · exact hb
    · exact (World.ownsRow.lt h2 k (by simpa using hk)).2, fun _ _ _ _ _ => trivial⟩
  have hlt : ∀ k ∈ b :: v'.ownBlock.toList, k < w'.heap.size := Bx.lt (n0 := n0) (l := l') ⟨q1, q2, q3, q4⟩
  have st2 := st1.swap (i := 0) (r' := .tree (b :: v'.ownBlock.toList) (fun _ => True)) rfl p2 (fun k hk => hk) (fun k hk => by
    rcases List.mem_cons.1 hk with rfl | hk
    · exact hm
    · exact h3 k (by simpa using hk)) (fun k hk => by
    rcases List.mem_cons.1 hk with rfl | hk
    · exact .inl (.head _)
    · exact (p3 k (by simpa using hk)).imp (fun h => .tail _ (Option.mem_toList.2 h)) id) ⟨trivial, hlt, fun _ _ _ _ _ => trivial⟩
  refine ⟨st2.split2 (fun k hk => by simp only [Res.at?, List.mem_singleton] at hk; subst hk; exact .head _) (fun k hk => .tail _ hk) (fun k hk hk' => ?_) q1 (frn_holds q2 fun k hk => ?_), fun k hk => (q4 k hk).1⟩
  · simp only [Res.at?, List.mem_singleton] at hk
    subst hk
    exact (q4 k (Option.mem_toList.1 hk')).2 rfl
  · rcases p3 k hk with h | h
    · exact h3 k h
    · exact .inr (Nat.le_trans st.chg.size h)
theorem St.bxInit (h : Bx E n0 T b v l w) : St w (b :: v.ownBlock.toList) [.blk b (.cells [v].toArray T (0, 0)), frn (b :: v.ownBlock.toList) w.heap.size E v l.length (bytesL l)] w := by
  obtain ⟨hb, ho, h1, h2⟩ := h
  refine ⟨Chg.refl _ _, List.pairwise_cons.2 ⟨fun s hs k hk hk' => ?_, List.pairwise_singleton _ _⟩, ?_⟩
  · simp only [List.mem_singleton] at hs
    subst hs
    simp only [Res.at?, List.mem_singleton] at hk
    subst hk
    exact (h2 k (Option.mem_toList.1 hk')).2 rfl
  · intro r hr
    simp only [List.mem_cons, List.not_mem_nil, or_false] at hr
    rcases hr with rfl | rfl
    · exact hb
    · exact frn_holds ho (fun k hk => .inl (.tail _ (Option.mem_toList.2 hk)))
theorem St.bxDone {v0 : Value} {i j len : Nat} (st : St w0 (b :: v0.ownBlock.toList) hs w) (hi : nth hs i = some (.blk b (.cells [v].toArray T (0, 0)))) (hj : nth hs j = some (frn (b :: v0.ownBlock.toList) w0.heap.size E v len (bytesL l))) (hl : l.length = len)
    (hn : n0 ≤ b) (h0 : ∀ k, v0.ownBlock = some k → n0 ≤ k ∧ k ≠ b) (hw : n0 ≤ w0.heap.size) : BxP E n0 T b v0 v l w0 w := by
  subst hl
  have hb : w.heap[b]? = some (.cells #[v] T (0, 0)) := st.res hi
  obtain ⟨⟨ho, hm⟩, -⟩ := st.res hj
  have key : ∀ k, v.ownBlock = some k → (v0.ownBlock = some k ∨ w0.heap.size ≤ k) ∧ n0 ≤ k ∧ k ≠ b := by
    intro k hk
    have hne : k ≠ b := by
      intro e
      have hij : i ≠ j := by
        rintro rfl
        rw [hi] at hj
        cases hj
      exact (apart_nth st.nodup hij hi hj) b (.head _) (Option.mem_toList.2 (e ▸ hk))
    rcases hm k hk with h | h
    · rcases List.mem_cons.1 h with rfl | h
      · exact absurd rfl hne
      · have h' : v0.ownBlock = some k := by simpa using h
        exact ⟨.inl h', (h0 k h').1, hne⟩
    · exact ⟨.inr h, by omega, hne⟩
  exact ⟨⟨hb, ho, hn, fun k hk => (key k hk).2⟩, st.chg, fun k hk => (key k hk).1⟩
end
end Sx


/- A parser's statements. -/
namespace Sx
open Go Go.RowKit LexS ParS
abbrev sm00 (a : Int) : List Value := [.int .u8 0, str [], str [], .slice none 0 0, .slice none 0 0, .slice none 0 0, .int .i64 a]
def choiceP (e : Nat) (blk : List Tok → PR (List Sm)) (a : Nat) (r0 : List Tok) : PR Sm := match condP e r0 with
  | .error f => .error f
  | .ok (x, r) => match blk r with
    | .error f => .error f
    | .ok (b, r1) => if isT wElse r1 = true then (match blk r1.tail with
        | .error f => .error f
        | .ok (l, r2) => .ok (.mk 3 [] [] [x] b l (a : Int), r2))
      else .ok (.mk 3 [] [] [x] b [] (a : Int), r1)
def loopP (e : Nat) (blk : List Tok → PR (List Sm)) (a : Nat) (r0 : List Tok) : PR Sm := match condP e r0 with
  | .error f => .error f
  | .ok (x, r) => match blk r with
    | .error f => .error f
    | .ok (b, r1) => .ok (.mk 4 [] [] [x] b [] (a : Int), r1)
def guardP (e : Nat) (blk : List Tok → PR (List Sm)) (a : Nat) (r0 : List Tok) : PR Sm := match nameP e r0 with
  | .error f => .error f
  | .ok (t, r) => match blk r with
    | .error f => .error f
    | .ok (b, r1) => .ok (.mk 5 t.text [] [] b [] (a : Int), r1)
def printP (e : Nat) (a : Nat) (r0 : List Tok) : PR Sm := match exprP e 64 r0 with
  | .error f => .error f
  | .ok (x, r) => match want e [59] r with
    | .error f => .error f
    | .ok r' => .ok (.mk 6 [] [] [x] [] [] (a : Int), r')
def skipP (e : Nat) (a : Nat) (r0 : List Tok) : PR Sm := match want e [59] r0 with
  | .error f => .error f
  | .ok r => .ok (.mk 7 [] [] [] [] [] (a : Int), r)
theorem stmtW_eq (e : Nat) (blk : List Tok → PR (List Sm)) (ts : List Tok) : stmtW e blk ts =
    if formT (here ts) wIf = true then choiceP e blk (atT e ts) ts.tail
    else if formT (here ts) wWhile = true then loopP e blk (atT e ts) ts.tail
    else if formT (here ts) wLock = true then guardP e blk (atT e ts) ts.tail
    else if formT (here ts) wPrint = true then printP e (atT e ts) ts.tail
    else if formT (here ts) wSkip = true then skipP e (atT e ts) ts.tail
    else assignP e (atT e ts) ts := by
  unfold stmtW choiceP loopP guardP printP skipP
  have hx : ∀ r, exprSemi e r = match exprP e 64 r with
      | .error f => .error f
      | .ok (x, r) => match want e [59] r with
        | .error f => .error f
        | .ok r' => .ok (x, r') := fun r => rfl
  split
  · rfl
  · split
    · rfl
    · split
      · rfl
      · split
        · rw [hx]
          cases exprP e 64 ts.tail with
          | error f => rfl
          | ok p =>
            simp only
            cases want e [59] p.2 <;> rfl
        · split <;> rfl
/-- the pieces of an assignment -/
theorem assignP_eq (e a : Nat) (ts : List Tok) : assignP e a ts = match nameP e ts with
    | .error f => .error f
    | .ok (t, r) => match want e [61] r with
      | .error f => .error f
      | .ok r1 => if isT wSwap r1 = true then (match want e [40] r1.tail with
          | .error f => .error f
          | .ok r2 => match nameP e r2 with
            | .error f => .error f
            | .ok (o, r3) => match want e [44] r3 with
              | .error f => .error f
              | .ok r4 => match exprP e 64 r4 with
                | .error f => .error f
                | .ok (x, r5) => match wantL e [[41], [59]] r5 with
                  | .error f => .error f
                  | .ok r6 => .ok (.mk 2 t.text o.text [x] [] [] (a : Int), r6))
        else match exprP e 64 r1 with
          | .error f => .error f
          | .ok (x, r2) => match want e [59] r2 with
            | .error f => .error f
            | .ok r3 => .ok (.mk 1 t.text [] [x] [] [] (a : Int), r3) := by
  unfold assignP swapP exprSemi
  cases nameP e ts with
  | error f => rfl
  | ok p =>
    simp only
    cases want e [61] p.2 with
    | error f => rfl
    | ok r1 =>
      simp only
      split
      · cases want e [40] r1.tail with
        | error f => rfl
        | ok r2 =>
          simp only
          cases nameP e r2 with
          | error f => rfl
          | ok q =>
            simp only
            cases want e [44] q.2 with
            | error f => rfl
            | ok r4 =>
              simp only
              cases exprP e 64 r4 with
              | error f => rfl
              | ok y =>
                simp only [wantL]
                cases want e [41] y.2 with
                | error f => rfl
                | ok r5 =>
                  simp only
                  cases want e [59] r5 <;> rfl
      · cases exprP e 64 r1 with
        | error f => rfl
        | ok y =>
          simp only
          cases want e [59] y.2 <;> rfl
/-- a block's reader; 'm': how much deeper blocks may lie -/
def blkP (e : Nat) : Nat → List Tok → PR (List Sm)
  | 0, r => if isT [123] r = true then fail e 3 r else fail e 2 r
  | m + 1, r => match want e [123] r with
    | .error f => .error f
    | .ok r1 => restW (stmtP e m) (r1.length + 1) r1
theorem stmtP_blk (e m : Nat) : stmtP e m = stmtW e (blkP e m) := by
  cases m with
  | zero => funext ts; rw [stmtP]; rfl
  | succ m => funext ts; rw [stmtP]; rfl
/-- statements, so many having come -/
def contS (st : List Tok → PR Sm) (n : Nat) (acc : List Sm) (r : List Tok) : PR (List Sm) := match restW st n r with
  | .error f => .error f
  | .ok (l, r') => .ok (acc ++ l, r')
theorem contS_nil (st : List Tok → PR Sm) (n : Nat) (r : List Tok) : restW st n r = contS st n [] r := by unfold contS; cases restW st n r with | error f => rfl | ok p => rfl
theorem contS_end {st : List Tok → PR Sm} {n : Nat} {acc : List Sm} {r : List Tok} (h : isT [125] r = true) : contS st (n + 1) acc r = .ok (acc, r.tail) := by simp only [contS, restW, if_pos h, List.append_nil]
theorem contS_step {st : List Tok → PR Sm} {n : Nat} {acc : List Sm} {r : List Tok} (h : isT [125] r = false) : contS st (n + 1) acc r = match st r with
    | .error f => .error f
    | .ok (s, r') => contS st n (acc ++ [s]) r' := by
  simp only [contS, restW, if_neg (show ¬ isT [125] r = true by simp [h])]
  cases st r with
  | error f => rfl
  | ok p =>
    simp only
    cases restW st n p.2 with
    | error f => rfl
    | ok q => simp
section
variable {tE tS : Nat} {w : World}
theorem exr_nil : ExR tE w none 0 [] [] := ⟨[], [], World.ownsRow_nil _ _ _ _, rfl, rfl, rfl⟩
theorem smr_nil : SmR tE tS w none 0 [] [] := ⟨[], [], World.ownsRow_nil _ _ _ _, rfl, rfl, rfl⟩
/-- what a statement's reader leaves in its block -/
def StIn (tE tS xb : Nat) (n : Nat) (s : Sm) (w' : World) : Prop := ∃ oe ob ol ce cb cl Se Sb Sl, w'.heap[xb]? = some (.cells (smC s oe ob ol ce cb cl).toArray tS (0, 0)) ∧ ExR tE w' oe ce s.e Se ∧ SmR tE tS w' ob cb s.body Sb ∧ SmR tE tS w' ol cl s.els Sl ∧ Nw n (Se ++ (Sb ++ Sl))
theorem getF5 {v1 v2 v3 v4 v5 : Value} (s : List UInt8) : (s = wIf ∧ getF [(wIf, v1), (wWhile, v2), (wLock, v3), (wPrint, v4), (wSkip, v5)] s = some v1) ∨ (s = wWhile ∧ getF [(wIf, v1), (wWhile, v2), (wLock, v3), (wPrint, v4), (wSkip, v5)] s = some v2) ∨
    (s = wLock ∧ getF [(wIf, v1), (wWhile, v2), (wLock, v3), (wPrint, v4), (wSkip, v5)] s = some v3) ∨ (s = wPrint ∧ getF [(wIf, v1), (wWhile, v2), (wLock, v3), (wPrint, v4), (wSkip, v5)] s = some v4) ∨ (s = wSkip ∧ getF [(wIf, v1), (wWhile, v2), (wLock, v3), (wPrint, v4), (wSkip, v5)] s = some v5) ∨
    ((s ≠ wIf ∧ s ≠ wWhile ∧ s ≠ wLock ∧ s ≠ wPrint ∧ s ≠ wSkip) ∧ getF [(wIf, v1), (wWhile, v2), (wLock, v3), (wPrint, v4), (wSkip, v5)] s = none) := by
  by_cases h1 : s = wIf
  · exact .inl ⟨h1, by simp [getF, h1]⟩
  by_cases h2 : s = wWhile
  · exact .inr (.inl ⟨h2, by subst h2; simp [getF, h1]⟩)
  by_cases h3 : s = wLock
  · exact .inr (.inr (.inl ⟨h3, by subst h3; simp [getF, h1, h2]⟩))
  by_cases h4 : s = wPrint
  · exact .inr (.inr (.inr (.inl ⟨h4, by subst h4; simp [getF, h1, h2, h3]⟩)))
  by_cases h5 : s = wSkip
  · exact .inr (.inr (.inr (.inr (.inl ⟨h5, by subst h5; simp [getF, h1, h2, h3, h4]⟩))))
  · exact .inr (.inr (.inr (.inr (.inr ⟨⟨h1, h2, h3, h4, h5⟩, by simp [getF, h1, h2, h3, h4, h5]⟩))))
end
end Sx
namespace Sx
open Go Go.RowKit LexS ParS
section
variable {w w' w0 : World} {M : List Nat} {hs : List Res}
/-- two blocks have been written on by a callee, and something new has come -/
theorem St.prs2 {b1 b2 : Nat} {o1 o2 o1' o2' : Obj} {q : Res} (st : St w0 M (.blk b1 o1 :: .blk b2 o2 :: hs) w) (ch : Chg [b1, b2] w w') (hm1 : b1 ∈ M ∨ w0.heap.size ≤ b1) (hm2 : b2 ∈ M ∨ w0.heap.size ≤ b2)
    (h1 : w'.heap[b1]? = some o1') (h2 : w'.heap[b2]? = some o2') (hq : q.holds w0.heap.size w') (hqa : ∀ k ∈ q.at?, w.heap.size ≤ k) : St w0 M (q :: .blk b1 o1' :: .blk b2 o2' :: hs) w' := by
  have hne : b1 ≠ b2 := st.bne 0 1 (by decide) rfl rfl
  have l1 : b1 < w.heap.size := (Array.getElem?_eq_some_iff.1 (st.res (i := 0) rfl)).1
  have l2 : b2 < w.heap.size := (Array.getElem?_eq_some_iff.1 (st.res (i := 1) rfl)).1
  have st1 := st.join (q := .tree [b1, b2] (fun _ => True)) (fun k hk => by
    simp only [Res.at?, List.mem_cons, List.not_mem_nil, or_false] at hk ⊢; exact hk) ⟨trivial, fun k hk => by
      simp only [List.mem_cons, List.not_mem_nil, or_false] at hk
      rcases hk with rfl | rfl <;> assumption, fun _ _ _ _ _ => trivial⟩
  have st2 := st1.swapPush (i := 0) (r' := .tree [b1, b2] (fun _ => True)) rfl ch (fun k hk => hk) (fun k hk => by
      simp only [List.mem_cons, List.not_mem_nil, or_false] at hk
      rcases hk with rfl | rfl <;> assumption) (fun k hk => hk) ⟨trivial, fun k hk => by
      simp only [List.mem_cons, List.not_mem_nil, or_false] at hk
      rcases hk with rfl | rfl
      · exact Nat.lt_of_lt_of_le l1 ch.size
      · exact Nat.lt_of_lt_of_le l2 ch.size, fun _ _ _ _ _ => trivial⟩ hq hqa
  have st3 := st2.perm (List.Perm.swap _ _ _)
  have st4 := st3.split2 (r := .blk b1 o1') (s := .blk b2 o2') (fun k hk => by
    simp only [Res.at?, List.mem_cons, List.not_mem_nil, or_false] at hk ⊢; exact .inl hk) (fun k hk => by
    simp only [Res.at?, List.mem_cons, List.not_mem_nil, or_false] at hk ⊢; exact .inr hk) (fun k hk hk' => by
    simp only [Res.at?, List.mem_cons, List.not_mem_nil, or_false] at hk hk'; exact hne (hk.symm.trans hk')) h1 h2
  exact st4.perm ((List.Perm.cons _ (List.Perm.swap _ _ _)).trans (List.Perm.swap _ _ _))
end
theorem form_ne {t : Tok} {s s' : List UInt8} (h : t.text = s') (hne : s' ≠ s) : ¬ formT t s = true := by unfold formT; simp [h, hne]
theorem stmtW_assign {e : Nat} {blk : List Tok → PR (List Sm)} {ts : List Tok} (h : ((here ts).text ≠ wIf ∧ (here ts).text ≠ wWhile ∧ (here ts).text ≠ wLock ∧ (here ts).text ≠ wPrint ∧ (here ts).text ≠ wSkip) ∨ (here ts).kind ≠ 2) :
    stmtW e blk ts = assignP e (atT e ts) ts := by
  have key : ∀ s, (here ts).text ≠ s ∨ (here ts).kind ≠ 2 → ¬ formT (here ts) s = true := fun s h => by
    unfold formT
    rcases h with h | h <;> simp [h]
  rw [stmtW_eq, if_neg (key _ (h.imp (·.1) id)), if_neg (key _ (h.imp (·.2.1) id)), if_neg (key _ (h.imp (·.2.2.1) id)), if_neg (key _ (h.imp (·.2.2.2.1) id)), if_neg (key _ (h.imp (·.2.2.2.2) id))]
end Sx


namespace Go.Proofs.YtjoepkpdanolkaaGreatDoor.Pq
open Go.RowKit Sx LexS ParS _root_.Go.Proofs.Tryz
theorem punary_any (c : PCtx) (hR : c.R = 70) (hg : c.g = 0) : ∀ (m d : Nat), d + m = 64 → DRead 35 c d (unaryP c.e m)
 | 0, d, h => punary_of c hR d 0 h (fun k hk => by omega) (fun k hk => by omega)
 | m + 1, d, h => punary_of c hR d (m + 1) h (fun k hk => by
     obtain rfl : k = m := by omega
     exact pexpr_of c hR hg (d + 1) k (punary_any c hR hg k (d + 1) (by omega))) (fun k hk => by
     obtain rfl : k = m := by omega
     exact punary_any c hR hg k (d + 1) (by omega))
/-- an expression that lies in no other -/
theorem pexpr_any (c : PCtx) (hR : c.R = 70) (hg : c.g = 0) (r : List Tok) (hr : r <:+ c.ts) (w : World) (hC : PCok c w) (hP : PAt c r w) : RetP Tryz.prog 19 [.pointer (some ⟨c.pb, 0, none⟩), .int .i64 0] w
    (PRes c r (exprP c.e 64 r) [c.pb] w (HE w)) (PErr c (exprP c.e 64 r) [c.pb] w) := pexpr_of c hR hg 0 64 (punary_any c hR hg 64 0 rfl) r hr w hC hP
/-- a row of one expression -/
def HX (w : World) (x : Ex) (v : Value) (w' : World) : Prop := ∃ oq cq Sq, v = .slice oq 1 cq ∧ ExR 27 w' oq cq [x] Sq ∧ Nw w.heap.size Sq

theorem pcond_any (c : PCtx) (hR : c.R = 70) (hg : c.g = 0) (r : List Tok) (hr : r <:+ c.ts) (w : World) (hC : PCok c w) (hP : PAt c r w) : RetP Tryz.prog 164 [.pointer (some ⟨c.pb, 0, none⟩)] w
    (PRes c r (condP c.e r) [c.pb] w (HX w)) (PErr c (condP c.e r) [c.pb] w) := by
 refine retp_of [_] Tryz.func164 rfl Tryz.ntmps164 rfl ?_;obtain ⟨w0, rfl⟩ : ∃ w0, w0 = w := ⟨_, rfl⟩
 have hP' := hP;dsimp only [PAt, pcell] at hP;have st := St.of1 [c.pb] hP;have h20 := hC.len;have hl := suf_len hr;have hs := condP.eq_1 c.e r;refine a8 ?_;refine vc_e (e_bs1 (l := [_]) st rfl rfl rfl rfl Tryz.underlying188 Tryz.sizeOf9 rfl rfl rfl Tryz.zeroValue9 ?_);intro b5 w hb5 st;refine vc_e (e_callp [_, _] rfl rfl Tryz.call88 rfl (pwant_any c [[40]] (by simp) _ _ _ _ rfl r hr _ (hC.k1 st.chg) (by exact st.rs 1) hR (st.res (i := 0) rfl) (by exact st.bne 0 1 (by decide) rfl rfl)) (by rintro _ w' ⟨f, hf, rfl, ch⟩ a ha; rw [wantL_one] at hf; exact And.intro ha (Or.inr ⟨_, rfl, f, by rw [hs, hf], rfl, st.chg.trans ch⟩)) ?_);rintro _ w ⟨r1, hx, hsfr1, hlnr1, hP1, cw⟩;rw [wantL_one] at hx;rw [hx] at hs; dsimp only at hs;replace st := St.prs (b := c.pb) st 1 rfl cw (.inl (.head _)) hP1;have hr1 := hsfr1.trans hr;refine a5 ?_;refine vc_e (e_callp [_, _] rfl rfl Tryz.call19 rfl (pexpr_any c hR hg r1 hr1 _ (hC.k1 st.chg) (by exact st.rs 1)) (by rintro _ w' ⟨f, hf, rfl, ch⟩ a ha; exact And.intro ha (Or.inr ⟨_, rfl, f, by rw [hs, hf], rfl, st.chg.trans ch⟩)) ?_);rintro _ w ⟨x, r2, hx, hsfr2, hlnr2, hP1, cw, ox, cx, Sx, rfl, hQ, hN⟩;have hNSx := hN.le st.chg.size;replace st := St.prsT (b := c.pb) st 1 rfl cw (.inl (.head _)) hP1 (holds_ex hQ) hN.2;rw [hx] at hs; dsimp only at hs;have hr2 := hsfr2.trans hr1;refine vc_e (e_al (l := [_, _, _, _, _, _]) st rfl rfl Tryz.zeroValue27 rfl ?_);intro b3 w hb3 st;refine vc_e (ests st 0 [_, _, _, _, _, _] Tryz.sizeOf27 ?_);intro w st;refine a5 ?_;refine vc_e (e_bs1 (l := [_]) st rfl rfl rfl rfl Tryz.underlying188 Tryz.sizeOf9 rfl rfl rfl Tryz.zeroValue9 ?_);intro b10 w hb10 st;refine vc_e (e_callp [_, _] rfl rfl Tryz.call88 rfl (pwant_any c [[41]] (by simp) _ _ _ _ rfl r2 hr2 _ (hC.k1 st.chg) (by exact st.rs 4) hR (st.res (i := 0) rfl) (by exact st.bne 0 4 (by decide) rfl rfl)) (by rintro _ w' ⟨f, hf, rfl, ch⟩ a ha; rw [wantL_one] at hf; exact And.intro ha (Or.inr ⟨_, rfl, f, by rw [hs, hf], rfl, st.chg.trans ch⟩)) ?_);rintro _ w ⟨r3, hx, hsfr3, hlnr3, hP1, cw⟩;rw [wantL_one] at hx;rw [hx] at hs; dsimp only at hs;replace st := St.prs (b := c.pb) st 4 rfl cw (.inl (.head _)) hP1;have hr3 := hsfr3.trans hr2;refine a4 ?_;refine yla st 1 [_, _, _, _, _, _] Tryz.isAgg27 Tryz.sizeOf27 ?_;refine vc_e (e_bs1 (l := [_, _, _, _, _, _]) st rfl rfl rfl rfl Tryz.underlying25 Tryz.sizeOf27 rfl rfl rfl Tryz.zeroValue27 ?_);intro b13 w hb13 st;refine a4 ?_;refine vq_ret1 st (.inl rfl) Tryz.results164 (.tmp rfl) ?_;refine .inl ⟨_, rfl, ?_⟩;exact ⟨x, r3, hs, hsfr3.trans (hsfr2.trans hsfr1), by simp at hlnr3 hlnr1; omega, (by exact st.rs 5), st.chg, some ⟨b13, 0, none⟩, 1, b13 :: Sx, rfl, ex_one (st.res (i := 0) rfl) (by exact (st.res (i := 3) rfl).1), Nw.app (S := [b13]) ⟨by simp, by simpa using hb13⟩ hNSx (fun b hb hb' => by exact st.ne (i := 0) (j := 3) (by decide) rfl rfl b hb hb')⟩
theorem pskip_any (c : PCtx) (hR : c.R = 70) (hg : c.g = 0) (a : Nat) (r : List Tok) (hr : r <:+ c.ts) (w : World) (hC : PCok c w) (hP : PAt c r w) (xb : Nat) (hX : w.heap[xb]? = some (.cells (sm00 (a : Int)).toArray 171 (0, 0))) (hne : c.pb ≠ xb) (hxn : c.n0 ≤ xb) (dv : Value) : RetP Tryz.prog 156 [.pointer (some ⟨c.pb, 0, none⟩), .pointer (some ⟨xb, 0, none⟩), dv] w
    (PRes c r (skipP c.e a r) [c.pb, xb] w (fun s _ w' => StIn 27 171 xb w.heap.size s w')) (PErr c (skipP c.e a r) [c.pb, xb] w) := by
 refine retp_of [_, _, _] Tryz.func156 rfl Tryz.ntmps156 rfl ?_;obtain ⟨w0, rfl⟩ : ∃ w0, w0 = w := ⟨_, rfl⟩
 have hP' := hP;dsimp only [PAt, pcell] at hP;have st := St.of2 [c.pb, xb] hP hX hne;have KC : ∀ {w'}, Chg [c.pb, xb] w0 w' → PCok c w' := fun ch => hC.k2 ch hxn
 have h20 := hC.len;have hl := suf_len hr;have hs := skipP.eq_1 c.e a r;refine a4 ?_;refine vy (y_fa0 rfl Tryz.underlying171 rfl rfl Tryz.sizeOf169 rfl) ?_;refine vc_e (est st 1 Tryz.sizeOf169 ?_);intro w st;refine a4 ?_;refine vc_e (e_bs1 (l := [_]) st rfl rfl rfl rfl Tryz.underlying188 Tryz.sizeOf9 rfl rfl rfl Tryz.zeroValue9 ?_);intro b10 w hb10 st;refine vc_e (e_callp [_, _] rfl rfl Tryz.call88 rfl (pwant_any c [[59]] (by simp) _ _ _ _ rfl r hr _ (KC st.chg) (by exact st.rs 1) hR (st.res (i := 0) rfl) (by exact st.bne 0 1 (by decide) rfl rfl)) (by rintro _ w' ⟨f, hf, rfl, ch⟩ a ha; rw [wantL_one] at hf; exact And.intro ha (Or.inr ⟨_, rfl, f, by rw [hs, hf], rfl, st.chg.trans (ch.mono (by simp))⟩)) ?_);rintro _ w ⟨r1, hx, hsfr1, hlnr1, hP1, cw⟩;rw [wantL_one] at hx;rw [hx] at hs; dsimp only at hs;replace st := St.prs (b := c.pb) st 1 rfl cw (.inl (.head _)) hP1;have hr1 := hsfr1.trans hr;refine a1 ?_;refine vq_ret0 (.inr rfl) Tryz.results156 ?_;refine .inl ⟨_, rfl, ?_⟩;exact ⟨_, r1, hs, hsfr1, by simp at hlnr1; omega, (by exact st.rs 1), st.chg, none, none, none, 0, 0, 0, [], [], [], (by exact st.rs 2), exr_nil, smr_nil, smr_nil, Nw.nil⟩
theorem pprint_any (c : PCtx) (hR : c.R = 70) (hg : c.g = 0) (a : Nat) (r : List Tok) (hr : r <:+ c.ts) (w : World) (hC : PCok c w) (hP : PAt c r w) (xb : Nat) (hX : w.heap[xb]? = some (.cells (sm00 (a : Int)).toArray 171 (0, 0))) (hne : c.pb ≠ xb) (hxn : c.n0 ≤ xb) (dv : Value) : RetP Tryz.prog 155 [.pointer (some ⟨c.pb, 0, none⟩), .pointer (some ⟨xb, 0, none⟩), dv] w
    (PRes c r (printP c.e a r) [c.pb, xb] w (fun s _ w' => StIn 27 171 xb w.heap.size s w')) (PErr c (printP c.e a r) [c.pb, xb] w) := by
 refine retp_of [_, _, _] Tryz.func155 rfl Tryz.ntmps155 rfl ?_;obtain ⟨w0, rfl⟩ : ∃ w0, w0 = w := ⟨_, rfl⟩
 have hP' := hP;dsimp only [PAt, pcell] at hP;have st := St.of2 [c.pb, xb] hP hX hne;have KC : ∀ {w'}, Chg [c.pb, xb] w0 w' → PCok c w' := fun ch => hC.k2 ch hxn
 have h20 := hC.len;have hl := suf_len hr;have hs := printP.eq_1 c.e a r;refine a5 ?_;refine vc_e (e_callp [_, _] rfl rfl Tryz.call19 rfl (pexpr_any c hR hg r hr _ (KC st.chg) (by exact st.rs 0)) (by rintro _ w' ⟨f, hf, rfl, ch⟩ a ha; exact And.intro ha (Or.inr ⟨_, rfl, f, by rw [hs, hf], rfl, st.chg.trans (ch.mono (by simp))⟩)) ?_);rintro _ w ⟨x, r1, hx, hsfr1, hlnr1, hP1, cw, ox, cx, Sx, rfl, hQ, hN⟩;have hNSx := hN.le st.chg.size;replace st := St.prsT (b := c.pb) st 0 rfl cw (.inl (.head _)) hP1 (holds_ex hQ) hN.2;rw [hx] at hs; dsimp only at hs;have hr1 := hsfr1.trans hr;refine vc_e (e_bs1 (l := [_, _, _, _, _, _]) st rfl rfl rfl rfl Tryz.underlying25 Tryz.sizeOf27 rfl rfl rfl Tryz.zeroValue27 ?_);intro b10 w hb10 st;have hE := ex_one (st.res (i := 0) rfl) (st.res (i := 1) rfl).1;have hNe : Nw w0.heap.size (b10 :: Sx) := Nw.app (S := [b10]) ⟨by simp, by simpa using hb10⟩ hNSx (fun b hb hb' => st.ne (i := 0) (j := 1) (by decide) rfl rfl b hb hb')
 replace st := st.join (q := .tree (b10 :: Sx) fun w => ExR 27 w (some ⟨b10, 0, none⟩) 1 [x] (b10 :: Sx)) (fun k hk => by
   rcases List.mem_cons.1 hk with rfl | hk
   · exact .inl (.head _)
   · exact .inr hk) (holds_ex hE)
 refine a1 ?_;refine vy (y_fa0 rfl Tryz.underlying171 rfl rfl Tryz.sizeOf169 rfl) ?_;refine vc_e (est st 2 Tryz.sizeOf169 ?_);intro w st;refine a1 ?_;refine yfz 3 Tryz.underlying171 Tryz.sizeOf25 ?_;refine vc_e (est st 2 Tryz.sizeOf25 ?_);intro w st;refine a4 ?_;refine vc_e (e_bs1 (l := [_]) st rfl rfl rfl rfl Tryz.underlying188 Tryz.sizeOf9 rfl rfl rfl Tryz.zeroValue9 ?_);intro b16 w hb16 st;refine vc_e (e_callp [_, _] rfl rfl Tryz.call88 rfl (pwant_any c [[59]] (by simp) _ _ _ _ rfl r1 hr1 _ (KC st.chg) (by exact st.rs 2) hR (st.res (i := 0) rfl) (by exact st.bne 0 2 (by decide) rfl rfl)) (by rintro _ w' ⟨f, hf, rfl, ch⟩ a ha; rw [wantL_one] at hf; exact And.intro ha (Or.inr ⟨_, rfl, f, by rw [hs, hf], rfl, st.chg.trans (ch.mono (by simp))⟩)) ?_);rintro _ w ⟨r2, hx, hsfr2, hlnr2, hP1, cw⟩;rw [wantL_one] at hx;rw [hx] at hs; dsimp only at hs;replace st := St.prs (b := c.pb) st 2 rfl cw (.inl (.head _)) hP1;have hr2 := hsfr2.trans hr1;refine a1 ?_;refine vq_ret0 (.inr rfl) Tryz.results155 ?_;refine .inl ⟨_, rfl, ?_⟩;exact ⟨_, r2, hs, hsfr2.trans hsfr1, by simp at hlnr2; omega, (by exact st.rs 2), st.chg, some ⟨b10, 0, none⟩, none, none, 1, 0, 0, b10 :: Sx, [], [], (by exact st.rs 3), (by exact (st.res (i := 1) rfl).1), smr_nil, smr_nil, by simpa using hNe⟩
set_option maxHeartbeats 1000000 in
theorem passign_any (c : PCtx) (hR : c.R = 70) (hg : c.g = 0) (a : Nat) (r : List Tok) (hr : r <:+ c.ts) (w : World) (hC : PCok c w) (hP : PAt c r w) (xb : Nat) (hX : w.heap[xb]? = some (.cells (sm00 (a : Int)).toArray 171 (0, 0))) (hne : c.pb ≠ xb) (hxn : c.n0 ≤ xb) : RetP Tryz.prog 147 [.pointer (some ⟨c.pb, 0, none⟩), .pointer (some ⟨xb, 0, none⟩)] w
    (PRes c r (assignP c.e a r) [c.pb, xb] w (fun s _ w' => StIn 27 171 xb w.heap.size s w')) (PErr c (assignP c.e a r) [c.pb, xb] w) := by
 refine retp_of [_, _] Tryz.func147 rfl Tryz.ntmps147 rfl ?_;obtain ⟨w0, rfl⟩ : ∃ w0, w0 = w := ⟨_, rfl⟩
 have hP' := hP;dsimp only [PAt, pcell] at hP;have st := St.of2 [c.pb, xb] hP hX hne;have KC : ∀ {w'}, Chg [c.pb, xb] w0 w' → PCok c w' := fun ch => hC.k2 ch hxn
 have h20 := hC.len;have hl := suf_len hr;have hs := assignP_eq c.e a r;refine a5 ?_;refine vc_e (e_callp [_] rfl rfl Tryz.call120 rfl (pname_any c hR r hr _ (KC st.chg) (by exact st.rs 0)) (by rintro _ w' ⟨f, hf, rfl, ch⟩ a ha; exact And.intro ha (Or.inr ⟨_, rfl, f, by rw [hs, hf], rfl, st.chg.trans (ch.mono (by simp))⟩)) ?_);rintro _ w ⟨t, r1, hx, hsf, hln, hP1, cw, rfl⟩;replace st := St.prs (b := c.pb) st 0 rfl cw (.inl (.head _)) hP1;rw [hx] at hs; dsimp only at hs;have hr1 := hsf.trans hr;have hsfr1 := hsf;have hlnr1 := hln;refine vy (y_fld rfl Tryz.underlying65 rfl rfl Tryz.isAgg9 rfl) ?_;refine a1 ?_;refine vy (y_fa0 rfl Tryz.underlying171 rfl rfl Tryz.sizeOf169 rfl) ?_;refine vc_e (est st 1 Tryz.sizeOf169 ?_);intro w st;refine a1 ?_;refine yfz 1 Tryz.underlying171 Tryz.sizeOf9 ?_;refine vc_e (est st 1 Tryz.sizeOf9 ?_);intro w st;refine a5 ?_;refine vc_e (e_bs1 (l := [_]) st rfl rfl rfl rfl Tryz.underlying188 Tryz.sizeOf9 rfl rfl rfl Tryz.zeroValue9 ?_);intro b14 w hb14 st;refine vc_e (e_callp [_, _] rfl rfl Tryz.call88 rfl (pwant_any c [[61]] (by simp) _ _ _ _ rfl r1 hr1 _ (KC st.chg) (by exact st.rs 1) hR (st.res (i := 0) rfl) (by exact st.bne 0 1 (by decide) rfl rfl)) (by rintro _ w' ⟨f, hf, rfl, ch⟩ a ha; rw [wantL_one] at hf; exact And.intro ha (Or.inr ⟨_, rfl, f, by rw [hs, hf], rfl, st.chg.trans (ch.mono (by simp))⟩)) ?_);rintro _ w ⟨r2, hx, hsfr2, hlnr2, hP1, cw⟩;rw [wantL_one] at hx;rw [hx] at hs; dsimp only at hs;replace st := St.prs (b := c.pb) st 1 rfl cw (.inl (.head _)) hP1;have hr2 := hsfr2.trans hr1;refine a6 ?_;refine vc_e (e_call [_, _] rfl rfl Tryz.call90 rfl (ptake_any c wSwap r2 hr2 _ (KC st.chg) (by exact st.rs 1)) ?_);rintro _ w ⟨rfl, hP1, cw⟩;replace st := St.prs (b := c.pb) st 1 rfl cw (.inl (.head _)) hP1;refine a3 ?_;refine vif ?_ ?_;intro hc18;have hF : isT wSwap r2 = false := by simpa using hc18
 simp only [hF, Bool.false_eq_true, if_false] at st hs;refine a4 ?_;refine vc_e (e_callp [_, _] rfl rfl Tryz.call19 rfl (pexpr_any c hR hg r2 hr2 _ (KC st.chg) (by exact st.rs 1)) (by rintro _ w' ⟨f, hf, rfl, ch⟩ a ha; exact And.intro ha (Or.inr ⟨_, rfl, f, by rw [hs, hf], rfl, st.chg.trans (ch.mono (by simp))⟩)) ?_);rintro _ w ⟨x, r3, hx, hsfr3, hlnr3, hP1, cw, ox, cx, Sx, rfl, hQ, hN⟩;have hNSx := hN.le st.chg.size;replace st := St.prsT (b := c.pb) st 1 rfl cw (.inl (.head _)) hP1 (holds_ex hQ) hN.2;rw [hx] at hs; dsimp only at hs;have hr3 := hsfr3.trans hr2;refine vc_e (e_bs1 (l := [_, _, _, _, _, _]) st rfl rfl rfl rfl Tryz.underlying25 Tryz.sizeOf27 rfl rfl rfl Tryz.zeroValue27 ?_);intro b22 w hb22 st;have hE := ex_one (st.res (i := 0) rfl) (st.res (i := 1) rfl).1;have hNe : Nw w0.heap.size (b22 :: Sx) := Nw.app (S := [b22]) ⟨by simp, by simpa using hb22⟩ hNSx (fun b hb hb' => st.ne (i := 0) (j := 1) (by decide) rfl rfl b hb hb')
 replace st := st.join (q := .tree (b22 :: Sx) fun w => ExR 27 w (some ⟨b22, 0, none⟩) 1 [x] (b22 :: Sx)) (fun k hk => by
   rcases List.mem_cons.1 hk with rfl | hk
   · exact .inl (.head _)
   · exact .inr hk) (holds_ex hE)
 refine a1 ?_;refine yfz 3 Tryz.underlying171 Tryz.sizeOf25 ?_;refine vc_e (est st 3 Tryz.sizeOf25 ?_);intro w st;refine a5 ?_;refine vc_e (e_bs1 (l := [_]) st rfl rfl rfl rfl Tryz.underlying188 Tryz.sizeOf9 rfl rfl rfl Tryz.zeroValue9 ?_);intro b26 w hb26 st;refine vc_e (e_callp [_, _] rfl rfl Tryz.call88 rfl (pwant_any c [[59]] (by simp) _ _ _ _ rfl r3 hr3 _ (KC st.chg) (by exact st.rs 3) hR (st.res (i := 0) rfl) (by exact st.bne 0 3 (by decide) rfl rfl)) (by rintro _ w' ⟨f, hf, rfl, ch⟩ a ha; rw [wantL_one] at hf; exact And.intro ha (Or.inr ⟨_, rfl, f, by rw [hs, hf], rfl, st.chg.trans (ch.mono (by simp))⟩)) ?_);rintro _ w ⟨r4, hx, hsfr4, hlnr4, hP1, cw⟩;rw [wantL_one] at hx;rw [hx] at hs; dsimp only at hs;replace st := St.prs (b := c.pb) st 3 rfl cw (.inl (.head _)) hP1;have hr4 := hsfr4.trans hr3;refine a4 ?_;refine vq_ret0 (.inl rfl) Tryz.results147 ?_;refine .inl ⟨_, rfl, ?_⟩;exact ⟨_, r4, hs, hsfr4.trans (hsfr3.trans (hsfr2.trans hsfr1)), by simp at hlnr4 hlnr2; omega, (by exact st.rs 3), st.chg, some ⟨b22, 0, none⟩, none, none, 1, 0, 0, b22 :: Sx, [], [], (by exact st.rs 4), (by exact (st.res (i := 1) rfl).1), smr_nil, smr_nil, by simpa using hNe⟩;intro hc18;have hT : isT wSwap r2 = true := by simpa using hc18
 simp only [hT, if_true] at st hs;have ht := tail_lt (isT_ne hT);have hr3 := suf_tail hr2;refine a6 ?_;refine vy (y_fa0 rfl Tryz.underlying171 rfl rfl Tryz.sizeOf169 rfl) ?_;refine vc_e (est st 2 Tryz.sizeOf169 ?_);intro w st;refine a5 ?_;refine vc_e (e_bs1 (l := [_]) st rfl rfl rfl rfl Tryz.underlying188 Tryz.sizeOf9 rfl rfl rfl Tryz.zeroValue9 ?_);intro b32 w hb32 st;refine vc_e (e_callp [_, _] rfl rfl Tryz.call88 rfl (pwant_any c [[40]] (by simp) _ _ _ _ rfl r2.tail hr3 _ (KC st.chg) (by exact st.rs 2) hR (st.res (i := 0) rfl) (by exact st.bne 0 2 (by decide) rfl rfl)) (by rintro _ w' ⟨f, hf, rfl, ch⟩ a ha; rw [wantL_one] at hf; exact And.intro ha (Or.inr ⟨_, rfl, f, by rw [hs, hf], rfl, st.chg.trans (ch.mono (by simp))⟩)) ?_);rintro _ w ⟨r4, hx, hsfr4, hlnr4, hP1, cw⟩;rw [wantL_one] at hx;rw [hx] at hs; dsimp only at hs;replace st := St.prs (b := c.pb) st 2 rfl cw (.inl (.head _)) hP1;have hr4 := hsfr4.trans hr3;refine a6 ?_;refine vc_e (e_callp [_] rfl rfl Tryz.call120 rfl (pname_any c hR r4 hr4 _ (KC st.chg) (by exact st.rs 2)) (by rintro _ w' ⟨f, hf, rfl, ch⟩ a ha; exact And.intro ha (Or.inr ⟨_, rfl, f, by rw [hs, hf], rfl, st.chg.trans (ch.mono (by simp))⟩)) ?_);rintro _ w ⟨t2, r5, hx, hsf, hln, hP1, cw, rfl⟩;replace st := St.prs (b := c.pb) st 2 rfl cw (.inl (.head _)) hP1;rw [hx] at hs; dsimp only at hs;have hr5 := hsf.trans hr4;have hsfr5 := hsf;have hlnr5 := hln;refine vy (y_fld rfl Tryz.underlying65 rfl rfl Tryz.isAgg9 rfl) ?_;refine a1 ?_;refine yfz 2 Tryz.underlying171 Tryz.sizeOf9 ?_;refine vc_e (est st 3 Tryz.sizeOf9 ?_);intro w st;refine a5 ?_;refine vc_e (e_bs1 (l := [_]) st rfl rfl rfl rfl Tryz.underlying188 Tryz.sizeOf9 rfl rfl rfl Tryz.zeroValue9 ?_);intro b41 w hb41 st;refine vc_e (e_callp [_, _] rfl rfl Tryz.call88 rfl (pwant_any c [[44]] (by simp) _ _ _ _ rfl r5 hr5 _ (KC st.chg) (by exact st.rs 3) hR (st.res (i := 0) rfl) (by exact st.bne 0 3 (by decide) rfl rfl)) (by rintro _ w' ⟨f, hf, rfl, ch⟩ a ha; rw [wantL_one] at hf; exact And.intro ha (Or.inr ⟨_, rfl, f, by rw [hs, hf], rfl, st.chg.trans (ch.mono (by simp))⟩)) ?_);rintro _ w ⟨r8, hx, hsfr8, hlnr8, hP1, cw⟩;rw [wantL_one] at hx;rw [hx] at hs; dsimp only at hs;replace st := St.prs (b := c.pb) st 3 rfl cw (.inl (.head _)) hP1;have hr8 := hsfr8.trans hr5;refine a6 ?_;refine vc_e (e_callp [_, _] rfl rfl Tryz.call19 rfl (pexpr_any c hR hg r8 hr8 _ (KC st.chg) (by exact st.rs 3)) (by rintro _ w' ⟨f, hf, rfl, ch⟩ a ha; exact And.intro ha (Or.inr ⟨_, rfl, f, by rw [hs, hf], rfl, st.chg.trans (ch.mono (by simp))⟩)) ?_);rintro _ w ⟨x, r6, hx, hsfr6, hlnr6, hP1, cw, ox, cx, Sx, rfl, hQ, hN⟩;have hNSx := hN.le st.chg.size;replace st := St.prsT (b := c.pb) st 3 rfl cw (.inl (.head _)) hP1 (holds_ex hQ) hN.2;rw [hx] at hs; dsimp only at hs;have hr6 := hsfr6.trans hr8;refine vc_e (e_bs1 (l := [_, _, _, _, _, _]) st rfl rfl rfl rfl Tryz.underlying25 Tryz.sizeOf27 rfl rfl rfl Tryz.zeroValue27 ?_);intro b46 w hb46 st;have hE := ex_one (st.res (i := 0) rfl) (st.res (i := 1) rfl).1
 have hNe : Nw w0.heap.size (b46 :: Sx) := Nw.app (S := [b46]) ⟨by simp, by simpa using hb46⟩ hNSx (fun b hb hb' => st.ne (i := 0) (j := 1) (by decide) rfl rfl b hb hb')
 replace st := st.join (q := .tree (b46 :: Sx) fun w => ExR 27 w (some ⟨b46, 0, none⟩) 1 [x] (b46 :: Sx)) (fun k hk => by
   rcases List.mem_cons.1 hk with rfl | hk
   · exact .inl (.head _)
   · exact .inr hk) (holds_ex hE)
 refine a1 ?_;refine yfz 3 Tryz.underlying171 Tryz.sizeOf25 ?_;refine vc_e (est st 5 Tryz.sizeOf25 ?_);intro w st;refine a4 ?_;refine vc_e (e_bsn (l := [str [41], str [59]]) (E := 9) st [(0, _), (1, _)] rfl rfl rfl (fun w => by simp [Instr.buildSlice, run_underlying Tryz.underlying188, Tryz.sizeOf9, Tryz.zeroValue9, Instr.fill, newRow, newObj, Sem.run, go_sem]) ?_);intro b50 w hb50 st;refine vc_e (e_callp [_, _] rfl rfl Tryz.call88 rfl (pwant_any c [[41], [59]] (by simp) _ _ _ _ rfl r6 hr6 _ (KC st.chg) (by exact st.rs 5) hR (st.res (i := 0) rfl) (by exact st.bne 0 5 (by decide) rfl rfl)) (by rintro _ w' ⟨f, hf, rfl, ch⟩ a ha; exact And.intro ha (Or.inr ⟨_, rfl, f, by rw [hs, hf], rfl, st.chg.trans (ch.mono (by simp))⟩)) ?_);rintro _ w ⟨r7, hx, hsfr7, hlnr7, hP1, cw⟩;rw [hx] at hs; dsimp only at hs;replace st := St.prs (b := c.pb) st 5 rfl cw (.inl (.head _)) hP1;have hr7 := hsfr7.trans hr6;refine a1 ?_;refine vq_ret0 (.inr rfl) Tryz.results147 ?_;refine .inl ⟨_, rfl, ?_⟩;exact ⟨_, r7, hs, hsfr7.trans (hsfr6.trans (hsfr8.trans (hsfr5.trans (hsfr4.trans ((List.tail_suffix _).trans (hsfr2.trans hsfr1)))))), by simp at hlnr7 hlnr8 hlnr4 hlnr2; omega, (by exact st.rs 5), st.chg, some ⟨b46, 0, none⟩, none, none, 1, 0, 0, b46 :: Sx, [], [], (by exact st.rs 6), (by exact (st.res (i := 1) rfl).1), smr_nil, smr_nil, by simpa using hNe⟩
end Go.Proofs.YtjoepkpdanolkaaGreatDoor.Pq


namespace Go.Proofs.YtjoepkpdanolkaaGreatDoor.Pq
open Go.RowKit Sx LexS ParS _root_.Go.Proofs.Tryz
theorem Tryz.info171 : Tryz.prog.info? 171 = some Tryz.t171 := by kernel_rfl
/-- a row of statements -/
def HB (w : World) (l : List Sm) (v : Value) (w' : World) : Prop := ∃ oq cq Sq, v = .slice oq l.length cq ∧ SmR 27 171 w' oq cq l Sq ∧ Nw w.heap.size Sq
/-- a statement's value -/
def HS (w : World) (s : Sm) (v : Value) (w' : World) : Prop := ∃ oe ob ol ce cb cl Sq, v = .agg (smC s oe ob ol ce cb cl).toArray ∧ SmS 27 171 w' s (smC s oe ob ol ce cb cl) Sq ∧ Nw w.heap.size Sq
/-- a reader of blocks (of statements) that lie so deep -/
def BRead (fo : FuncId) (c : PCtx) (d : Nat) (F : List Tok → PR (List Sm)) : Prop := ∀ (r : List Tok) (hr : r <:+ c.ts) (w : World) (hC : PCok c w) (hP : PAt c r w), RetP Tryz.prog fo [.pointer (some ⟨c.pb, 0, none⟩), .int .i64 (d : Int)] w
    (PRes c r (F r) [c.pb] w (HB w)) (PErr c (F r) [c.pb] w)
def SRead (c : PCtx) (d : Nat) (F : List Tok → PR Sm) : Prop := ∀ (r : List Tok) (hr : r <:+ c.ts) (w : World) (hC : PCok c w) (hP : PAt c r w), RetP Tryz.prog 139 [.pointer (some ⟨c.pb, 0, none⟩), .int .i64 (d : Int)] w
    (PRes c r (F r) [c.pb] w (HS w)) (PErr c (F r) [c.pb] w)
theorem holds_sms {w : World} {base : Nat} {s : Sm} {l : List Value} {S : List Nat} (h : SmS 27 171 w s l S) : (Res.tree S fun w => SmS 27 171 w s l S).holds base w := holds_of h h.lt (fun a b h hk => h.kept hk)
theorem holds_smss {w : World} {base : Nat} {s : List Sm} {l : List Value} {S : List Nat} (h : SmSs 27 171 w s l S) : (Res.tree S fun w => SmSs 27 171 w s l S).holds base w := holds_of h h.lt (fun a b h hk => h.kept hk)
theorem blkP_want {e m : Nat} {r : List Tok} (h : isT [123] r = true → m ≠ 0) : blkP e m r = match want e [123] r with
  | .error f => .error f
  | .ok r1 => restW (stmtP e (m - 1)) (r1.length + 1) r1 := by
 cases m with
 | zero =>
  have hF : isT [123] r = false := by cases hc : isT [123] r with | false => rfl | true => exact absurd rfl (h hc)
  rw [want_neg hF]
  simp only [blkP, hF, Bool.false_eq_true, if_false] <;> rfl
 | succ m => rfl
set_option maxHeartbeats 1000000 in
theorem prest_of (c : PCtx) (hR : c.R = 70) (d m n : Nat) (hS : SRead c d (stmtP c.e m)) (r : List Tok) (hn : r.length < n) (hr : r <:+ c.ts) (w : World) (hC : PCok c w) (hP : PAt c r w) : RetP Tryz.prog 121 [.pointer (some ⟨c.pb, 0, none⟩), .int .i64 (d : Int)] w
    (PRes c r (restW (stmtP c.e m) n r) [c.pb] w (HB w)) (PErr c (restW (stmtP c.e m) n r) [c.pb] w) := by
 refine retp_of [_, _] Tryz.func121 rfl Tryz.ntmps121 rfl ?_;obtain ⟨w0, rfl⟩ : ∃ w0, w0 = w := ⟨_, rfl⟩
 have hP' := hP;dsimp only [PAt, pcell] at hP;have st := St.of1 [c.pb] hP;have h20 := hC.len;have hl := suf_len hr;have hs := contS_nil (stmtP c.e m) n r;replace st := St.pushR (r := .tree [] (fun w => SmSs 27 171 w [] [] [])) st (Chg.refl _ _) (holds_smss (by simp [SmSs])) (by simp [Res.at?]);replace st := st.ownNil 171 7;refine a12 ?_;refine vc_loop (w0 := w0) (M := [c.pb]) (fun (y : List Sm × List Tok × Nat × Option Addr × Nat × List Value × List Nat) => [(0, .pointer (some ⟨c.pb, 0, none⟩)), (1, .int .i64 (d : Int)), (5, .slice y.2.2.2.1 y.1.length y.2.2.2.2.1)]) (fun y => [.own (.slice y.2.2.2.1 y.1.length y.2.2.2.2.1) 171 7 y.1.length y.2.2.2.2.2.1, .tree y.2.2.2.2.2.2 (fun w => SmSs 27 171 w y.1 y.2.2.2.2.2.1 y.2.2.2.2.2.2), .blk c.pb (.cells (pcell c y.2.1).toArray c.T (0, 0))]) (fun y _ => y.2.1 <:+ r ∧ y.2.1.length + y.1.length ≤ r.length ∧ y.2.1.length < y.2.2.1 ∧ Nw w0.heap.size y.2.2.2.2.2.2 ∧ restW (stmtP c.e m) n r = contS (stmtP c.e m) y.2.2.1 y.1 y.2.1) (fun y => y.2.1.length) ([], r, n, none, 0, [], []) ⟨rfl, rfl, rfl, trivial⟩ st ⟨List.suffix_refl _, by simp, hn, Nw.nil, hs⟩ ?_;clear st hs;rintro ⟨acc, r1, k, oq, cq, xs, Sq⟩ w ⟨hsf1, hl1, hk1, hSq, hs⟩ st;dsimp only at hsf1 hl1 hk1 hSq hs st;have hr1 := hsf1.trans hr;obtain ⟨k, rfl⟩ : ∃ j, k = j + 1 := ⟨k - 1, by omega⟩
 refine a4 ?_;refine vc_e (e_call [_, _] rfl rfl Tryz.call90 rfl (ptake_any c [125] r1 hr1 _ (hC.k1 st.chg) (by exact st.rs 2)) ?_);rintro _ w ⟨rfl, hP1, cw⟩;replace st := St.prs (b := c.pb) st 2 rfl cw (.inl (.head _)) hP1;refine a3 ?_;refine vif ?_ ?_;intro hc8;have hF : isT [125] r1 = false := by simpa using hc8
 simp only [hF, Bool.false_eq_true, if_false] at st;rw [contS_step hF] at hs;refine a7 ?_;refine vc_e (e_callp [_, _] rfl rfl Tryz.call139 rfl (hS r1 hr1 _ (hC.k1 st.chg) (by exact st.rs 2)) (by rintro _ w' ⟨f, hf, rfl, ch⟩ a ha; exact And.intro ha (Or.inr ⟨_, rfl, f, by rw [hs, hf], rfl, st.chg.trans ch⟩)) ?_);rintro _ w ⟨s, r2, hx, hsfr2, hlnr2, hP1, cw, oe, ob, ol, ce, cb, cl, Ss, rfl, hQ, hN⟩;have hNSs := hN.le st.chg.size;replace st := St.prsT (b := c.pb) st 2 rfl cw (.inl (.head _)) hP1 (holds_sms hQ) hN.2;rw [hx] at hs; dsimp only at hs;have h41 := hr.length_le;refine vc_e (e_bs1 (l := [_, _, _, _, _, _, _]) st rfl rfl rfl rfl Tryz.underlying141 Tryz.sizeOf171 rfl rfl rfl Tryz.zeroValue171 ?_);intro b13 w hb13 st;refine vc_e (e_app (bytes := 120) st 2 0 rfl rfl rfl rfl rfl rfl Tryz.underlying141 Tryz.info171 rfl rfl rfl rfl rfl (by simp) rfl rfl (by unfold maxLen; omega) (by omega) ?_);intro oaQ capQ w st;have hS2 := SmSs.snoc (st.res (i := 3) rfl).1 (st.res (i := 1) rfl).1;have hN2 := hSq.app hNSs (st.ne (i := 3) (j := 1) (by decide) rfl rfl);replace st := ((st.pick [3, 1, 2, 4] rfl (by decide)).join (q := .tree (Sq ++ Ss) fun w => SmSs 27 171 w (acc ++ [s]) (xs ++ smC s oe ob ol ce cb cl) (Sq ++ Ss)) (fun k hk => List.mem_append.1 hk) (holds_smss hS2)).pick [1, 0, 2] rfl (by decide);refine a3 ?_;refine vq_again (acc ++ [s], r2, k, oaQ, capQ, xs ++ smC s oe ob ol ce cb cl, Sq ++ Ss)  (by refine ⟨rfl, rfl, ?_, trivial⟩; simp [find, put]) (by simpa using st) ?_ ?_;exact ⟨hsfr2.trans hsf1, by simp; omega, by dsimp only; omega, hN2, hs⟩;dsimp only; omega;intro hc8;have hT : isT [125] r1 = true := by simpa using hc8
 simp only [hT, if_true] at st;rw [contS_end hT] at hs;have ht := tail_lt (isT_ne hT);refine a12 ?_;refine vq_ret1 st (.inl rfl) Tryz.results121 (.tmp rfl) ?_;refine .inl ⟨_, rfl, ?_⟩;have hown := st.ownNw (i := 0) rfl;exact ⟨acc, _, hs, (List.tail_suffix _).trans hsf1, by omega, (by exact st.rs 2), st.chg, oq, cq, obk oq ++ Sq, rfl, ⟨xs, Sq, hown.1, rfl, (st.res (i := 1) rfl).1⟩, hown.2.app hSq (fun b hb => st.ne (i := 0) (j := 1) (by decide) rfl rfl b (by simpa [Res.at?, obk_own] using hb))⟩
theorem pblock_of (c : PCtx) (hR : c.R = 70) (d m : Nat) (hd : d + m = 64) (hB : ∀ k, m = k + 1 → SRead c (d + 1) (stmtP c.e k)) : BRead 165 c d (blkP c.e m) := by
 intro r hr w hC hP;refine retp_of [_, _] Tryz.func165 rfl Tryz.ntmps165 rfl ?_;obtain ⟨w0, rfl⟩ : ∃ w0, w0 = w := ⟨_, rfl⟩
 have hP' := hP;dsimp only [PAt, pcell] at hP;have st := St.of1 [c.pb] hP;have h20 := hC.len;have hl := suf_len hr;refine a9 ?_;refine vc_e (e_call [_, _] rfl rfl Tryz.call87 rfl (pis_any c [123] r hr _ (hC.k1 st.chg) (by exact st.rs 0)) ?_);rintro _ w ⟨rfl, cw⟩;replace st := st.call0 cw;refine vmb ?_ ?_;intro hg7;(try simp only [dn] at hg7);refine a5 ?_;refine vif ?_ ?_;intro hc10;(try simp only [dn] at hc10);have hd64 : d = 64 := by omega
 obtain rfl : m = 0 := by omega
 have hs : blkP c.e 0 r = fail c.e 3 r := by simp only [blkP]; rw [if_pos hg7]
 refine a2 ?_;refine vc_e (e_callp [_, _] rfl rfl Tryz.call20 rfl (pfail_any c 3 r hr _ (hC.k1 st.chg) (by exact st.rs 0) hR) (by rintro _ w' ⟨rfl, ch⟩ a ha; exact And.intro ha (Or.inr ⟨_, rfl, (atT c.e r, 3), by rw [hs]; rfl, rfl, st.chg.trans ch.of_nil⟩)) (fun _ _ h => h.elim));intro hc10;(try simp only [dn] at hc10);have hm0 : isT [123] r = true → m ≠ 0 := fun _ => by omega
 have hs := blkP_want (e := c.e) hm0;refine a5 ?_;refine vc_e (e_bs1 (l := [_]) st rfl rfl rfl rfl Tryz.underlying188 Tryz.sizeOf9 rfl rfl rfl Tryz.zeroValue9 ?_);intro b14 w hb14 st;refine vc_e (e_callp [_, _] rfl rfl Tryz.call88 rfl (pwant_any c [[123]] (by simp) _ _ _ _ rfl r hr _ (hC.k1 st.chg) (by exact st.rs 1) hR (st.res (i := 0) rfl) (by exact st.bne 0 1 (by decide) rfl rfl)) (by rintro _ w' ⟨f, hf, rfl, ch⟩ a ha; rw [wantL_one] at hf; exact And.intro ha (Or.inr ⟨_, rfl, f, by rw [hs, hf], rfl, st.chg.trans ch⟩)) ?_);rintro _ w ⟨r1, hx, hsfr1, hlnr1, hP1, cw⟩;rw [wantL_one] at hx;rw [hx] at hs; dsimp only at hs;replace st := St.prs (b := c.pb) st 1 rfl cw (.inl (.head _)) hP1;dsimp only [setNth] at st;have hr1 := hsfr1.trans hr;obtain ⟨k, rfl⟩ : ∃ k, m = k + 1 := ⟨m - 1, by have := hm0 (want_ok (by assumption)).1; omega⟩
 rw [Nat.add_sub_cancel] at hs;refine a6 ?_;refine vy (yin ((d + 1 : Nat) : Int)) ?_;refine vc_e (e_callp [_, _] rfl rfl Tryz.call121 rfl (prest_of c hR (d + 1) k (r1.length + 1) (hB k rfl) r1 (Nat.lt_succ_self _) hr1 _ (hC.k1 st.chg) (by exact st.rs 1)) (by rintro _ w' ⟨f, hf, rfl, ch⟩ a ha; exact And.intro ha (Or.inr ⟨_, rfl, f, by rw [hs, hf], rfl, st.chg.trans ch⟩)) ?_);rintro _ w ⟨l, r2, hx, hsfr2, hlnr2, hP1, cw, ob, cb, Sb, rfl, hQ, hN⟩;have hNSb := hN.le st.chg.size;replace st := St.prsT (b := c.pb) st 1 rfl cw (.inl (.head _)) hP1 (holds_sm hQ) hN.2;dsimp only [setNth] at st;rw [hx] at hs;refine a4 ?_;refine vq_ret1 st (.inl rfl) Tryz.results165 (.tmp rfl) ?_;refine .inl ⟨_, rfl, ?_⟩;exact ⟨l, r2, hs, hsfr2.trans hsfr1, by simp at hlnr1; omega, (by exact st.rs 2), st.chg, ob, cb, Sb, rfl, (st.res (i := 0) rfl).1, hNSb⟩;intro hg7;(try simp only [dn] at hg7);have hm0 : isT [123] r = true → m ≠ 0 := fun h => by rw [hg7] at h; cases h
 have hs := blkP_want (e := c.e) hm0;refine a11 ?_;refine vc_e (e_bs1 (l := [_]) st rfl rfl rfl rfl Tryz.underlying188 Tryz.sizeOf9 rfl rfl rfl Tryz.zeroValue9 ?_);intro b14 w hb14 st;refine vc_e (e_callp [_, _] rfl rfl Tryz.call88 rfl (pwant_any c [[123]] (by simp) _ _ _ _ rfl r hr _ (hC.k1 st.chg) (by exact st.rs 1) hR (st.res (i := 0) rfl) (by exact st.bne 0 1 (by decide) rfl rfl)) (by rintro _ w' ⟨f, hf, rfl, ch⟩ a ha; rw [wantL_one] at hf; exact And.intro ha (Or.inr ⟨_, rfl, f, by rw [hs, hf], rfl, st.chg.trans ch⟩)) ?_);rintro _ w ⟨r1, hx, hsfr1, hlnr1, hP1, cw⟩;rw [wantL_one] at hx;rw [hx] at hs; dsimp only at hs;replace st := St.prs (b := c.pb) st 1 rfl cw (.inl (.head _)) hP1;dsimp only [setNth] at st;have hr1 := hsfr1.trans hr;obtain ⟨k, rfl⟩ : ∃ k, m = k + 1 := ⟨m - 1, by have := hm0 (want_ok (by assumption)).1; omega⟩
 rw [Nat.add_sub_cancel] at hs;refine a6 ?_;refine vy (yin ((d + 1 : Nat) : Int)) ?_;refine vc_e (e_callp [_, _] rfl rfl Tryz.call121 rfl (prest_of c hR (d + 1) k (r1.length + 1) (hB k rfl) r1 (Nat.lt_succ_self _) hr1 _ (hC.k1 st.chg) (by exact st.rs 1)) (by rintro _ w' ⟨f, hf, rfl, ch⟩ a ha; exact And.intro ha (Or.inr ⟨_, rfl, f, by rw [hs, hf], rfl, st.chg.trans ch⟩)) ?_);rintro _ w ⟨l, r2, hx, hsfr2, hlnr2, hP1, cw, ob, cb, Sb, rfl, hQ, hN⟩;have hNSb := hN.le st.chg.size;replace st := St.prsT (b := c.pb) st 1 rfl cw (.inl (.head _)) hP1 (holds_sm hQ) hN.2;dsimp only [setNth] at st;rw [hx] at hs;refine a4 ?_;refine vq_ret1 st (.inl rfl) Tryz.results165 (.tmp rfl) ?_;refine .inl ⟨_, rfl, ?_⟩;exact ⟨l, r2, hs, hsfr2.trans hsfr1, by simp at hlnr1; omega, (by exact st.rs 2), st.chg, ob, cb, Sb, rfl, (st.res (i := 0) rfl).1, hNSb⟩
set_option maxHeartbeats 1000000 in
theorem pchoice_of (c : PCtx) (hR : c.R = 70) (hg : c.g = 0) (d : Nat) (blk : List Tok → PR (List Sm)) (hB : BRead 165 c d blk) (a : Nat) (r : List Tok) (hr : r <:+ c.ts) (w : World) (hC : PCok c w) (hP : PAt c r w) (xb : Nat) (hX : w.heap[xb]? = some (.cells (sm00 (a : Int)).toArray 171 (0, 0))) (hne : c.pb ≠ xb) (hxn : c.n0 ≤ xb) : RetP Tryz.prog 152 [.pointer (some ⟨c.pb, 0, none⟩), .pointer (some ⟨xb, 0, none⟩), .int .i64 (d : Int)] w
    (PRes c r (choiceP c.e blk a r) [c.pb, xb] w (fun s _ w' => StIn 27 171 xb w.heap.size s w')) (PErr c (choiceP c.e blk a r) [c.pb, xb] w) := by
 refine retp_of [_, _, _] Tryz.func152 rfl Tryz.ntmps152 rfl ?_;obtain ⟨w0, rfl⟩ : ∃ w0, w0 = w := ⟨_, rfl⟩
 have hP' := hP;dsimp only [PAt, pcell] at hP;have st := St.of2 [c.pb, xb] hP hX hne;have KC : ∀ {w'}, Chg [c.pb, xb] w0 w' → PCok c w' := fun ch => hC.k2 ch hxn
 have h20 := hC.len;have hl := suf_len hr;have hs := choiceP.eq_1 c.e blk a r;refine a5 ?_;refine vc_e (e_callp [_] rfl rfl Tryz.call164 rfl (pcond_any c hR hg r hr _ (KC st.chg) (by exact st.rs 0)) (by rintro _ w' ⟨f, hf, rfl, ch⟩ a ha; exact And.intro ha (Or.inr ⟨_, rfl, f, by rw [hs, hf], rfl, st.chg.trans (ch.mono (by simp))⟩)) ?_);rintro _ w ⟨x, r1, hx, hsfr1, hlnr1, hP1, cw, ox, cx, Sx, rfl, hQ, hN⟩;have hNSx := hN.le st.chg.size;replace st := St.prsT (b := c.pb) st 0 rfl cw (.inl (.head _)) hP1 (holds_ex hQ) hN.2;rw [hx] at hs; dsimp only at hs;have hr1 := hsfr1.trans hr;refine a1 ?_;refine vy (y_fa0 rfl Tryz.underlying171 rfl rfl Tryz.sizeOf169 rfl) ?_;refine vc_e (est st 2 Tryz.sizeOf169 ?_);intro w st;refine a1 ?_;refine yfz 3 Tryz.underlying171 Tryz.sizeOf25 ?_;refine vc_e (est st 2 Tryz.sizeOf25 ?_);intro w st;refine a7 ?_;refine vc_e (e_callp [_, _] rfl rfl Tryz.call165 rfl (hB r1 hr1 _ (KC st.chg) (by exact st.rs 1)) (by rintro _ w' ⟨f, hf, rfl, ch⟩ a ha; exact And.intro ha (Or.inr ⟨_, rfl, f, by rw [hs, hf], rfl, st.chg.trans (ch.mono (by simp))⟩)) ?_);rintro _ w ⟨l1, r2, hx, hsfr2, hlnr2, hP1, cw, ob, cb, Sb, rfl, hQ, hN⟩;have hNSb := hN.le st.chg.size;replace st := St.prsT (b := c.pb) st 1 rfl cw (.inl (.head _)) hP1 (holds_sm hQ) hN.2;rw [hx] at hs; dsimp only at hs;have hr2 := hsfr2.trans hr1;refine a1 ?_;refine yfz 4 Tryz.underlying171 Tryz.sizeOf141 ?_;refine vc_e (est st 3 Tryz.sizeOf141 ?_);intro w st;refine a5 ?_;refine vc_e (e_call [_, _] rfl rfl Tryz.call90 rfl (ptake_any c wElse r2 hr2 _ (KC st.chg) (by exact st.rs 2)) ?_);rintro _ w ⟨rfl, hP1, cw⟩;replace st := St.prs (b := c.pb) st 2 rfl cw (.inl (.head _)) hP1;refine a2 ?_;refine vif ?_ ?_;intro hc21;simp only [hc21, if_true] at st hs;have ht := tail_lt (isT_ne hc21);have hr2t := suf_tail hr2;refine a4 ?_;refine vc_e (e_callp [_, _] rfl rfl Tryz.call165 rfl (hB r2.tail hr2t _ (KC st.chg) (by exact st.rs 2)) (by rintro _ w' ⟨f, hf, rfl, ch⟩ a ha; exact And.intro ha (Or.inr ⟨_, rfl, f, by rw [hs, hf], rfl, st.chg.trans (ch.mono (by simp))⟩)) ?_);rintro _ w ⟨l2, r3, hx, hsfr3, hlnr3, hP1, cw, ol, cl, Sl, rfl, hQ, hN⟩;have hNSl := hN.le st.chg.size;replace st := St.prsT (b := c.pb) st 2 rfl cw (.inl (.head _)) hP1 (holds_sm hQ) hN.2;rw [hx] at hs; dsimp only at hs;have hr3 := hsfr3.trans hr2t;refine a1 ?_;refine yfz 5 Tryz.underlying171 Tryz.sizeOf141 ?_;refine vc_e (est st 4 Tryz.sizeOf141 ?_);intro w st;refine a1 ?_;refine vq_ret0 (.inr rfl) Tryz.results152 ?_;refine .inl ⟨_, rfl, ?_⟩;exact ⟨_, r3, hs, hsfr3.trans ((List.tail_suffix _).trans (hsfr2.trans hsfr1)), by omega, (by exact st.rs 3), st.chg, ox, ob, ol, cx, cb, cl, Sx, Sb, Sl, (by exact st.rs 4), (st.res (i := 2) rfl).1, (st.res (i := 1) rfl).1, (st.res (i := 0) rfl).1, hNSx.app (hNSb.app hNSl (st.ne (i := 1) (j := 0) (by decide) rfl rfl)) (fun b hb hb' => (List.mem_append.1 hb').elim (st.ne (i := 2) (j := 1) (by decide) rfl rfl b hb) (st.ne (i := 2) (j := 0) (by decide) rfl rfl b hb))⟩;intro hc21;simp only [hc21, Bool.false_eq_true, if_false] at st hs;refine a1 ?_;refine vq_ret0 (.inr rfl) Tryz.results152 ?_
 refine .inl ⟨_, rfl, ?_⟩;exact ⟨_, r2, hs, hsfr2.trans hsfr1, by omega, (by exact st.rs 2), st.chg, ox, ob, none, cx, cb, 0, Sx, Sb, [], (by exact st.rs 3), (st.res (i := 1) rfl).1, (st.res (i := 0) rfl).1, smr_nil, by rw [List.append_nil]; exact hNSx.app hNSb (st.ne (i := 1) (j := 0) (by decide) rfl rfl)⟩
theorem ploop_of (c : PCtx) (hR : c.R = 70) (hg : c.g = 0) (d : Nat) (blk : List Tok → PR (List Sm)) (hB : BRead 165 c d blk) (a : Nat) (r : List Tok) (hr : r <:+ c.ts) (w : World) (hC : PCok c w) (hP : PAt c r w) (xb : Nat) (hX : w.heap[xb]? = some (.cells (sm00 (a : Int)).toArray 171 (0, 0))) (hne : c.pb ≠ xb) (hxn : c.n0 ≤ xb) : RetP Tryz.prog 153 [.pointer (some ⟨c.pb, 0, none⟩), .pointer (some ⟨xb, 0, none⟩), .int .i64 (d : Int)] w
    (PRes c r (loopP c.e blk a r) [c.pb, xb] w (fun s _ w' => StIn 27 171 xb w.heap.size s w')) (PErr c (loopP c.e blk a r) [c.pb, xb] w) := by
 refine retp_of [_, _, _] Tryz.func153 rfl Tryz.ntmps153 rfl ?_;obtain ⟨w0, rfl⟩ : ∃ w0, w0 = w := ⟨_, rfl⟩
 have hP' := hP;dsimp only [PAt, pcell] at hP;have st := St.of2 [c.pb, xb] hP hX hne;have KC : ∀ {w'}, Chg [c.pb, xb] w0 w' → PCok c w' := fun ch => hC.k2 ch hxn
 have h20 := hC.len;have hl := suf_len hr;have hs := loopP.eq_1 c.e blk a r;refine a5 ?_;refine vc_e (e_callp [_] rfl rfl Tryz.call164 rfl (pcond_any c hR hg r hr _ (KC st.chg) (by exact st.rs 0)) (by rintro _ w' ⟨f, hf, rfl, ch⟩ a ha; exact And.intro ha (Or.inr ⟨_, rfl, f, by rw [hs, hf], rfl, st.chg.trans (ch.mono (by simp))⟩)) ?_);rintro _ w ⟨x, r1, hx, hsfr1, hlnr1, hP1, cw, ox, cx, Sx, rfl, hQ, hN⟩;have hNSx := hN.le st.chg.size;replace st := St.prsT (b := c.pb) st 0 rfl cw (.inl (.head _)) hP1 (holds_ex hQ) hN.2;rw [hx] at hs; dsimp only at hs;have hr1 := hsfr1.trans hr;refine a1 ?_;refine vy (y_fa0 rfl Tryz.underlying171 rfl rfl Tryz.sizeOf169 rfl) ?_;refine vc_e (est st 2 Tryz.sizeOf169 ?_);intro w st;refine a1 ?_;refine yfz 3 Tryz.underlying171 Tryz.sizeOf25 ?_;refine vc_e (est st 2 Tryz.sizeOf25 ?_);intro w st;refine a6 ?_;refine vc_e (e_callp [_, _] rfl rfl Tryz.call165 rfl (hB r1 hr1 _ (KC st.chg) (by exact st.rs 1)) (by rintro _ w' ⟨f, hf, rfl, ch⟩ a ha; exact And.intro ha (Or.inr ⟨_, rfl, f, by rw [hs, hf], rfl, st.chg.trans (ch.mono (by simp))⟩)) ?_);rintro _ w ⟨l1, r2, hx, hsfr2, hlnr2, hP1, cw, ob, cb, Sb, rfl, hQ, hN⟩;have hNSb := hN.le st.chg.size;replace st := St.prsT (b := c.pb) st 1 rfl cw (.inl (.head _)) hP1 (holds_sm hQ) hN.2;rw [hx] at hs; dsimp only at hs;have hr2 := hsfr2.trans hr1;refine a1 ?_;refine yfz 4 Tryz.underlying171 Tryz.sizeOf141 ?_;refine vc_e (est st 3 Tryz.sizeOf141 ?_);intro w st;refine a1 ?_;refine vq_ret0 (.inr rfl) Tryz.results153 ?_;refine .inl ⟨_, rfl, ?_⟩;exact ⟨_, r2, hs, hsfr2.trans hsfr1, by omega, (by exact st.rs 2), st.chg, ox, ob, none, cx, cb, 0, Sx, Sb, [], (by exact st.rs 3), (st.res (i := 1) rfl).1, (st.res (i := 0) rfl).1, smr_nil, by rw [List.append_nil]; exact hNSx.app hNSb (st.ne (i := 1) (j := 0) (by decide) rfl rfl)⟩
theorem pguard_of (c : PCtx) (hR : c.R = 70) (hg : c.g = 0) (d : Nat) (blk : List Tok → PR (List Sm)) (hB : BRead 165 c d blk) (a : Nat) (r : List Tok) (hr : r <:+ c.ts) (w : World) (hC : PCok c w) (hP : PAt c r w) (xb : Nat) (hX : w.heap[xb]? = some (.cells (sm00 (a : Int)).toArray 171 (0, 0))) (hne : c.pb ≠ xb) (hxn : c.n0 ≤ xb) : RetP Tryz.prog 154 [.pointer (some ⟨c.pb, 0, none⟩), .pointer (some ⟨xb, 0, none⟩), .int .i64 (d : Int)] w
    (PRes c r (guardP c.e blk a r) [c.pb, xb] w (fun s _ w' => StIn 27 171 xb w.heap.size s w')) (PErr c (guardP c.e blk a r) [c.pb, xb] w) := by
 refine retp_of [_, _, _] Tryz.func154 rfl Tryz.ntmps154 rfl ?_;obtain ⟨w0, rfl⟩ : ∃ w0, w0 = w := ⟨_, rfl⟩
 have hP' := hP;dsimp only [PAt, pcell] at hP;have st := St.of2 [c.pb, xb] hP hX hne;have KC : ∀ {w'}, Chg [c.pb, xb] w0 w' → PCok c w' := fun ch => hC.k2 ch hxn
 have h20 := hC.len;have hl := suf_len hr;have hs := guardP.eq_1 c.e blk a r;refine a5 ?_;refine vc_e (e_callp [_] rfl rfl Tryz.call120 rfl (pname_any c hR r hr _ (KC st.chg) (by exact st.rs 0)) (by rintro _ w' ⟨f, hf, rfl, ch⟩ a ha; exact And.intro ha (Or.inr ⟨_, rfl, f, by rw [hs, hf], rfl, st.chg.trans (ch.mono (by simp))⟩)) ?_);rintro _ w ⟨t, r1, hx, hsf, hln, hP1, cw, rfl⟩;replace st := St.prs (b := c.pb) st 0 rfl cw (.inl (.head _)) hP1;rw [hx] at hs; dsimp only at hs;have hr1 := hsf.trans hr;have hsfr1 := hsf;have hlnr1 := hln;refine vy (y_fld rfl Tryz.underlying65 rfl rfl Tryz.isAgg9 rfl) ?_;refine a1 ?_;refine vy (y_fa0 rfl Tryz.underlying171 rfl rfl Tryz.sizeOf169 rfl) ?_;refine vc_e (est st 1 Tryz.sizeOf169 ?_);intro w st;refine a1 ?_;refine yfz 1 Tryz.underlying171 Tryz.sizeOf9 ?_;refine vc_e (est st 1 Tryz.sizeOf9 ?_);intro w st;refine a6 ?_;refine vc_e (e_callp [_, _] rfl rfl Tryz.call165 rfl (hB r1 hr1 _ (KC st.chg) (by exact st.rs 0)) (by rintro _ w' ⟨f, hf, rfl, ch⟩ a ha; exact And.intro ha (Or.inr ⟨_, rfl, f, by rw [hs, hf], rfl, st.chg.trans (ch.mono (by simp))⟩)) ?_);rintro _ w ⟨l1, r2, hx, hsfr2, hlnr2, hP1, cw, ob, cb, Sb, rfl, hQ, hN⟩;have hNSb := hN.le st.chg.size;replace st := St.prsT (b := c.pb) st 0 rfl cw (.inl (.head _)) hP1 (holds_sm hQ) hN.2;rw [hx] at hs; dsimp only at hs;have hr2 := hsfr2.trans hr1;refine a1 ?_;refine yfz 4 Tryz.underlying171 Tryz.sizeOf141 ?_;refine vc_e (est st 2 Tryz.sizeOf141 ?_);intro w st;refine a1 ?_;refine vq_ret0 (.inr rfl) Tryz.results154 ?_;refine .inl ⟨_, rfl, ?_⟩;exact ⟨_, r2, hs, hsfr2.trans hsfr1, by omega, (by exact st.rs 1), st.chg, none, ob, none, 0, cb, 0, [], Sb, [], (by exact st.rs 2), exr_nil, (st.res (i := 0) rfl).1, smr_nil, by simpa using hNSb⟩
/-- what statements begin with, and what reads what follows -/
abbrev formsL (c : PCtx) : List (Wd × Value) := [(wIf, .func (.func 152) [.pointer (some ⟨c.pb, 0, none⟩)].toArray #[]), (wWhile, .func (.func 153) [.pointer (some ⟨c.pb, 0, none⟩)].toArray #[]), (wLock, .func (.func 154) [.pointer (some ⟨c.pb, 0, none⟩)].toArray #[]), (wPrint, .func (.func 155) [.pointer (some ⟨c.pb, 0, none⟩)].toArray #[]), (wSkip, .func (.func 156) [.pointer (some ⟨c.pb, 0, none⟩)].toArray #[])]

theorem pforms_any (c : PCtx) (w : World) : Ret Tryz.prog 146 [.pointer (some ⟨c.pb, 0, none⟩)] w fun v w' => ∃ b, v = .map (some b) ∧ w.heap.size ≤ b ∧ w'.heap[b]? = some (mapF (formsL c)) ∧ Chg [] w w' := by
 refine ret_of [_] Tryz.func146 rfl Tryz.ntmps146 rfl ?_;have st := St.init w [];obtain ⟨w0, rfl⟩ : ∃ w0, w0 = w := ⟨_, rfl⟩
 refine a7 ?_;refine vc_e (e_mkF st rfl rfl ?_);intro b3 w hb3 st;refine a1 ?_;refine vy (y_mf [_] [] rfl rfl) ?_;refine vc_e (e_inF st 0 rfl rfl rfl rfl rfl (by (right; assumption)) Tryz.underlying216 Tryz.underlying9 (by simp [getF]) ?_);intro w st; dsimp only [setNth, List.cons_append, List.nil_append] at st;refine a1 ?_;refine vy (y_mf [_] [] rfl rfl) ?_;refine vc_e (e_inF st 0 rfl rfl rfl rfl rfl (by (right; assumption)) Tryz.underlying216 Tryz.underlying9 (by simp [getF]) ?_);intro w st; dsimp only [setNth, List.cons_append, List.nil_append] at st;refine a1 ?_;refine vy (y_mf [_] [] rfl rfl) ?_;refine vc_e (e_inF st 0 rfl rfl rfl rfl rfl (by (right; assumption)) Tryz.underlying216 Tryz.underlying9 (by simp [getF]) ?_);intro w st; dsimp only [setNth, List.cons_append, List.nil_append] at st;refine a1 ?_;refine vy (y_mf [_] [] rfl rfl) ?_;refine vc_e (e_inF st 0 rfl rfl rfl rfl rfl (by (right; assumption)) Tryz.underlying216 Tryz.underlying9 (by simp [getF]) ?_);intro w st; dsimp only [setNth, List.cons_append, List.nil_append] at st;refine a1 ?_;refine vy (y_mf [_] [] rfl rfl) ?_;refine vc_e (e_inF st 0 rfl rfl rfl rfl rfl (by (right; assumption)) Tryz.underlying216 Tryz.underlying9 (by simp [getF]) ?_);intro w st; dsimp only [setNth, List.cons_append, List.nil_append] at st;refine a5 ?_;refine vr1 st Tryz.results146 ?_;exact ⟨b3, rfl, hb3, st.res (i := 0) rfl, st.chg⟩
set_option maxHeartbeats 2000000 in
theorem pstmt_of (c : PCtx) (hR : c.R = 70) (hg : c.g = 0) (d : Nat) (blk : List Tok → PR (List Sm)) (hB : BRead 165 c d blk) : SRead c d (stmtW c.e blk) := by
 intro r hr w hC hP;refine retp_of [_, _] Tryz.func139 rfl Tryz.ntmps139 rfl ?_;obtain ⟨w0, rfl⟩ : ∃ w0, w0 = w := ⟨_, rfl⟩
 have hP' := hP;dsimp only [PAt, pcell] at hP;have st := St.of1 [c.pb] hP;have h20 := hC.len;have hl := suf_len hr;have hs := stmtW_eq c.e blk r;refine a2 ?_;refine vc_e (e_al (l := [_, _, _, _, _, _, _]) st rfl rfl Tryz.zeroValue171 rfl ?_);intro b4 w hb4 st;refine a5 ?_;refine vc_e (e_call [_] rfl rfl Tryz.call40 rfl (pat_any c r hr _ (hC.k1 st.chg) (by exact st.rs 1)) ?_);rintro _ w ⟨rfl, cw⟩;replace st := st.call0 cw;refine vy (ybd (.agg #[_, _, _, _, _, _, _]) [(6, _)]) ?_;refine vc_e (e_al (l := [_, _, _, _, _, _, _]) st rfl rfl Tryz.zeroValue171 rfl ?_);intro b5 w hb5 st;refine vc_e (ests st 0 [_, _, _, _, _, _, _] Tryz.sizeOf171 ?_);intro w st; dsimp only [setNth, wr] at st;refine a4 ?_;have hpx : c.pb ≠ b5 := st.bne 2 0 (by decide) rfl rfl;refine a1 ?_;refine vc_e (e_call [_] rfl rfl Tryz.call36 rfl (phere_any c r hr _ (hC.k1 st.chg) (by exact st.rs 2)) ?_);rintro _ w ⟨rfl, cw⟩;replace st := st.call0 cw;refine vc_e (e_al (l := [_, _, _, _]) st rfl rfl Tryz.zeroValue65 rfl ?_);intro b6 w hb6 st;refine vc_e (ests st 0 [_, _, _, _] Tryz.sizeOf65 ?_);intro w st; dsimp only [setNth, wr] at st;refine a4 ?_;refine vdr Tryz.mixed [Yt 0, Yt 2, Yt 3, Nt 1, Nt 4, Yt 5, Yt 6, Yt 7, Yt 8, Yt 9] [.blk b6 (.cells (tkL (here r)).toArray 65 (0, 0))] st ?_;clear st; intro w st hS;refine pm hS ?_;refine pfz hS 1 Tryz.underlying65 Tryz.sizeOf9 ?_;refine pld hS 0 Tryz.isAgg9 ?_;refine vp_do rfl (e_call [_] rfl rfl Tryz.call146 rfl (pforms_any c _) ?_);rintro _ w ⟨bm, rfl, hbm, hMp, cw⟩;replace st := St.pushR (r := .blk bm (mapF (formsL c))) st cw hMp (by simpa [Res.at?] using hbm);refine vp_next st.dr ?_; intro hS;refine vp_do rfl (e_lkF st 0 rfl rfl rfl rfl rfl Tryz.underlying216 Tryz.underlying9 Tryz.zeroValue214 ?_);refine vp_next st.dr ?_; intro hS;refine pm hS ?_;(iterate 2 refine vp_take rfl rfl rfl hS (fun w st => y_ext rfl rfl) ?_);(iterate 2 refine vp_take rfl rfl rfl hS (fun w st => y_as rfl) ?_);refine vp_end (vq_then (sr ?_));refine a1 ?_;refine vmb ?_ ?_
 ·intro hg23;(try simp only [dn] at hg23);refine vy (y_fa0 rfl Tryz.underlying65 rfl rfl Tryz.sizeOf63 rfl) ?_;refine yl st 1 Tryz.isAgg63 ?_;refine a4 ?_;refine vif ?_ ?_
  ·intro hc27;(try simp only [dn] at hc27);refine a3 ?_;refine vc_e (e_call [_] rfl rfl Tryz.call39 rfl (pnext_any c r hr (kind_ne (k := 2) (by omega) (by decide)) _ (hC.k1 st.chg) (by exact st.rs 4)) ?_);rintro _ w ⟨rfl, hP1, cw⟩;replace st := St.prs (b := c.pb) st 4 rfl cw (.inl (.head _)) hP1;dsimp only [setNth] at st;refine a6 ?_;have hkd : (here r).kind = 2 := by omega
   have hlt := tail_lt (kind_ne hkd (by decide));rcases getF5 (v1 := (.func (.func 152) [.pointer (some ⟨c.pb, 0, none⟩)].toArray #[])) (v2 := (.func (.func 153) [.pointer (some ⟨c.pb, 0, none⟩)].toArray #[])) (v3 := (.func (.func 154) [.pointer (some ⟨c.pb, 0, none⟩)].toArray #[])) (v4 := (.func (.func 155) [.pointer (some ⟨c.pb, 0, none⟩)].toArray #[])) (v5 := (.func (.func 156) [.pointer (some ⟨c.pb, 0, none⟩)].toArray #[])) (here r).text with ⟨he1, he2⟩ | ⟨he1, he2⟩ | ⟨he1, he2⟩ | ⟨he1, he2⟩ | ⟨he1, he2⟩ | ⟨he1, he2⟩
   rotate_right 1
   exfalso; rw [he2] at hg23; cases hg23;have hform : formT (here r) wIf = true := by unfold formT; simp [he1, hkd]
   rw [if_pos hform] at hs
   refine vc_e (e_callvp (f := 152) (first := [.pointer (some ⟨c.pb, 0, none⟩)]) (captured := []) [_, _] rfl rfl (by show some _ = some _; rw [he2]; rfl) Tryz.call152 rfl (pchoice_of c hR hg d blk hB (atT c.e r) r.tail (suf_tail hr) _ (hC.k1 st.chg) (st.res (i := 4) rfl) b5 (st.res (i := 2) rfl) hpx (Nat.le_trans hC.le hb5)) (by
     rintro _ w' ⟨f, hf, rfl, ch⟩ a ha
     exact And.intro ha (Or.inr ⟨_, rfl, f, by rw [hs, hf], rfl, st.chg.trans' ch (fun k hk => by
       rcases List.mem_cons.1 hk with rfl | hk
       · exact .inl (.head _)
       · exact .inr (by simp at hk; subst hk; exact hb5))⟩)) ?_)
   rintro _ w ⟨s, r2, hx, hsfr2, hlnr2, hP1, cw, oe, ob, ol, ce, cb, cl, Se, Sb, Sl, hX2, hE2, hB2, hL2, hN2⟩;rw [hx] at hs;have hN3 := hN2.le st.chg.size;have hS2 : SmS 27 171 w s (smC s oe ob ol ce cb cl) (Se ++ (Sb ++ Sl)) := SmS_iff.2 ⟨oe, ce, ob, cb, ol, cl, Se, Sb, Sl, rfl, hE2, hB2, hL2, rfl⟩;replace st := (st.pick [4, 2, 0, 1, 3] rfl (by decide)).prs2 cw (.inl (.head _)) (.inr hb5) hP1 hX2 (holds_sms hS2) hN2.2;refine a4 ?_;refine yla st 2 [_, _, _, _, _, _, _] Tryz.isAgg171 Tryz.sizeOf171 ?_;refine vc_e (ests st 5 [_, _, _, _, _, _, _] Tryz.sizeOf171 ?_);intro w st; dsimp only [setNth, wr] at st;refine a4 ?_;refine vq_ret1 st (.inl rfl) Tryz.results139 (by exact .cell 5 rfl rfl Tryz.isAgg171 Tryz.sizeOf171) ?_;refine .inl ⟨_, rfl, ?_⟩;exact ⟨s, r2, hs, hsfr2.trans (List.tail_suffix _), by omega, (by exact st.rs 1), st.chg, oe, ob, ol, ce, cb, cl, _, rfl, (st.res (i := 0) rfl).1, hN3⟩;have hform : formT (here r) wWhile = true := by unfold formT; simp [he1, hkd]
   rw [if_neg (form_ne (s := wIf) he1 (by decide)), if_pos hform] at hs
   refine vc_e (e_callvp (f := 153) (first := [.pointer (some ⟨c.pb, 0, none⟩)]) (captured := []) [_, _] rfl rfl (by show some _ = some _; rw [he2]; rfl) Tryz.call153 rfl (ploop_of c hR hg d blk hB (atT c.e r) r.tail (suf_tail hr) _ (hC.k1 st.chg) (st.res (i := 4) rfl) b5 (st.res (i := 2) rfl) hpx (Nat.le_trans hC.le hb5)) (by
     rintro _ w' ⟨f, hf, rfl, ch⟩ a ha
     exact And.intro ha (Or.inr ⟨_, rfl, f, by rw [hs, hf], rfl, st.chg.trans' ch (fun k hk => by
       rcases List.mem_cons.1 hk with rfl | hk
       · exact .inl (.head _)
       · exact .inr (by simp at hk; subst hk; exact hb5))⟩)) ?_)
   rintro _ w ⟨s, r2, hx, hsfr2, hlnr2, hP1, cw, oe, ob, ol, ce, cb, cl, Se, Sb, Sl, hX2, hE2, hB2, hL2, hN2⟩;rw [hx] at hs;have hN3 := hN2.le st.chg.size;have hS2 : SmS 27 171 w s (smC s oe ob ol ce cb cl) (Se ++ (Sb ++ Sl)) := SmS_iff.2 ⟨oe, ce, ob, cb, ol, cl, Se, Sb, Sl, rfl, hE2, hB2, hL2, rfl⟩;replace st := (st.pick [4, 2, 0, 1, 3] rfl (by decide)).prs2 cw (.inl (.head _)) (.inr hb5) hP1 hX2 (holds_sms hS2) hN2.2;refine a4 ?_;refine yla st 2 [_, _, _, _, _, _, _] Tryz.isAgg171 Tryz.sizeOf171 ?_;refine vc_e (ests st 5 [_, _, _, _, _, _, _] Tryz.sizeOf171 ?_);intro w st; dsimp only [setNth, wr] at st;refine a4 ?_;refine vq_ret1 st (.inl rfl) Tryz.results139 (by exact .cell 5 rfl rfl Tryz.isAgg171 Tryz.sizeOf171) ?_;refine .inl ⟨_, rfl, ?_⟩;exact ⟨s, r2, hs, hsfr2.trans (List.tail_suffix _), by omega, (by exact st.rs 1), st.chg, oe, ob, ol, ce, cb, cl, _, rfl, (st.res (i := 0) rfl).1, hN3⟩;have hform : formT (here r) wLock = true := by unfold formT; simp [he1, hkd]
   rw [if_neg (form_ne (s := wIf) he1 (by decide)), if_neg (form_ne (s := wWhile) he1 (by decide)), if_pos hform] at hs
   refine vc_e (e_callvp (f := 154) (first := [.pointer (some ⟨c.pb, 0, none⟩)]) (captured := []) [_, _] rfl rfl (by show some _ = some _; rw [he2]; rfl) Tryz.call154 rfl (pguard_of c hR hg d blk hB (atT c.e r) r.tail (suf_tail hr) _ (hC.k1 st.chg) (st.res (i := 4) rfl) b5 (st.res (i := 2) rfl) hpx (Nat.le_trans hC.le hb5)) (by
     rintro _ w' ⟨f, hf, rfl, ch⟩ a ha
     exact And.intro ha (Or.inr ⟨_, rfl, f, by rw [hs, hf], rfl, st.chg.trans' ch (fun k hk => by
       rcases List.mem_cons.1 hk with rfl | hk
       · exact .inl (.head _)
       · exact .inr (by simp at hk; subst hk; exact hb5))⟩)) ?_)
   rintro _ w ⟨s, r2, hx, hsfr2, hlnr2, hP1, cw, oe, ob, ol, ce, cb, cl, Se, Sb, Sl, hX2, hE2, hB2, hL2, hN2⟩;rw [hx] at hs;have hN3 := hN2.le st.chg.size;have hS2 : SmS 27 171 w s (smC s oe ob ol ce cb cl) (Se ++ (Sb ++ Sl)) := SmS_iff.2 ⟨oe, ce, ob, cb, ol, cl, Se, Sb, Sl, rfl, hE2, hB2, hL2, rfl⟩;replace st := (st.pick [4, 2, 0, 1, 3] rfl (by decide)).prs2 cw (.inl (.head _)) (.inr hb5) hP1 hX2 (holds_sms hS2) hN2.2;refine a4 ?_;refine yla st 2 [_, _, _, _, _, _, _] Tryz.isAgg171 Tryz.sizeOf171 ?_;refine vc_e (ests st 5 [_, _, _, _, _, _, _] Tryz.sizeOf171 ?_);intro w st; dsimp only [setNth, wr] at st;refine a4 ?_;refine vq_ret1 st (.inl rfl) Tryz.results139 (by exact .cell 5 rfl rfl Tryz.isAgg171 Tryz.sizeOf171) ?_;refine .inl ⟨_, rfl, ?_⟩;exact ⟨s, r2, hs, hsfr2.trans (List.tail_suffix _), by omega, (by exact st.rs 1), st.chg, oe, ob, ol, ce, cb, cl, _, rfl, (st.res (i := 0) rfl).1, hN3⟩;have hform : formT (here r) wPrint = true := by unfold formT; simp [he1, hkd]
   rw [if_neg (form_ne (s := wIf) he1 (by decide)), if_neg (form_ne (s := wWhile) he1 (by decide)), if_neg (form_ne (s := wLock) he1 (by decide)), if_pos hform] at hs
   refine vc_e (e_callvp (f := 155) (first := [.pointer (some ⟨c.pb, 0, none⟩)]) (captured := []) [_, _] rfl rfl (by show some _ = some _; rw [he2]; rfl) Tryz.call155 rfl (pprint_any c hR hg  (atT c.e r) r.tail (suf_tail hr) _ (hC.k1 st.chg) (st.res (i := 4) rfl) b5 (st.res (i := 2) rfl) hpx (Nat.le_trans hC.le hb5) (.int .i64 (d : Int))) (by
     rintro _ w' ⟨f, hf, rfl, ch⟩ a ha
     exact And.intro ha (Or.inr ⟨_, rfl, f, by rw [hs, hf], rfl, st.chg.trans' ch (fun k hk => by
       rcases List.mem_cons.1 hk with rfl | hk
       · exact .inl (.head _)
       · exact .inr (by simp at hk; subst hk; exact hb5))⟩)) ?_)
   rintro _ w ⟨s, r2, hx, hsfr2, hlnr2, hP1, cw, oe, ob, ol, ce, cb, cl, Se, Sb, Sl, hX2, hE2, hB2, hL2, hN2⟩;rw [hx] at hs;have hN3 := hN2.le st.chg.size;have hS2 : SmS 27 171 w s (smC s oe ob ol ce cb cl) (Se ++ (Sb ++ Sl)) := SmS_iff.2 ⟨oe, ce, ob, cb, ol, cl, Se, Sb, Sl, rfl, hE2, hB2, hL2, rfl⟩;replace st := (st.pick [4, 2, 0, 1, 3] rfl (by decide)).prs2 cw (.inl (.head _)) (.inr hb5) hP1 hX2 (holds_sms hS2) hN2.2;refine a4 ?_;refine yla st 2 [_, _, _, _, _, _, _] Tryz.isAgg171 Tryz.sizeOf171 ?_;refine vc_e (ests st 5 [_, _, _, _, _, _, _] Tryz.sizeOf171 ?_);intro w st; dsimp only [setNth, wr] at st;refine a4 ?_;refine vq_ret1 st (.inl rfl) Tryz.results139 (by exact .cell 5 rfl rfl Tryz.isAgg171 Tryz.sizeOf171) ?_;refine .inl ⟨_, rfl, ?_⟩;exact ⟨s, r2, hs, hsfr2.trans (List.tail_suffix _), by omega, (by exact st.rs 1), st.chg, oe, ob, ol, ce, cb, cl, _, rfl, (st.res (i := 0) rfl).1, hN3⟩;have hform : formT (here r) wSkip = true := by unfold formT; simp [he1, hkd]
   rw [if_neg (form_ne (s := wIf) he1 (by decide)), if_neg (form_ne (s := wWhile) he1 (by decide)), if_neg (form_ne (s := wLock) he1 (by decide)), if_neg (form_ne (s := wPrint) he1 (by decide)), if_pos hform] at hs
   refine vc_e (e_callvp (f := 156) (first := [.pointer (some ⟨c.pb, 0, none⟩)]) (captured := []) [_, _] rfl rfl (by show some _ = some _; rw [he2]; rfl) Tryz.call156 rfl (pskip_any c hR hg  (atT c.e r) r.tail (suf_tail hr) _ (hC.k1 st.chg) (st.res (i := 4) rfl) b5 (st.res (i := 2) rfl) hpx (Nat.le_trans hC.le hb5) (.int .i64 (d : Int))) (by
     rintro _ w' ⟨f, hf, rfl, ch⟩ a ha
     exact And.intro ha (Or.inr ⟨_, rfl, f, by rw [hs, hf], rfl, st.chg.trans' ch (fun k hk => by
       rcases List.mem_cons.1 hk with rfl | hk
       · exact .inl (.head _)
       · exact .inr (by simp at hk; subst hk; exact hb5))⟩)) ?_)
   rintro _ w ⟨s, r2, hx, hsfr2, hlnr2, hP1, cw, oe, ob, ol, ce, cb, cl, Se, Sb, Sl, hX2, hE2, hB2, hL2, hN2⟩;rw [hx] at hs;have hN3 := hN2.le st.chg.size;have hS2 : SmS 27 171 w s (smC s oe ob ol ce cb cl) (Se ++ (Sb ++ Sl)) := SmS_iff.2 ⟨oe, ce, ob, cb, ol, cl, Se, Sb, Sl, rfl, hE2, hB2, hL2, rfl⟩;replace st := (st.pick [4, 2, 0, 1, 3] rfl (by decide)).prs2 cw (.inl (.head _)) (.inr hb5) hP1 hX2 (holds_sms hS2) hN2.2;refine a4 ?_;refine yla st 2 [_, _, _, _, _, _, _] Tryz.isAgg171 Tryz.sizeOf171 ?_;refine vc_e (ests st 5 [_, _, _, _, _, _, _] Tryz.sizeOf171 ?_);intro w st; dsimp only [setNth, wr] at st;refine a4 ?_;refine vq_ret1 st (.inl rfl) Tryz.results139 (by exact .cell 5 rfl rfl Tryz.isAgg171 Tryz.sizeOf171) ?_;refine .inl ⟨_, rfl, ?_⟩;exact ⟨s, r2, hs, hsfr2.trans (List.tail_suffix _), by omega, (by exact st.rs 1), st.chg, oe, ob, ol, ce, cb, cl, _, rfl, (st.res (i := 0) rfl).1, hN3⟩
  intro hc27;(try simp only [dn] at hc27);have hs := stmtW_assign (e := c.e) (blk := blk) (ts := r) (.inr (by omega));refine a5 ?_
  refine vc_e (e_callp [_, _] rfl rfl Tryz.call147 rfl (passign_any c hR hg  (atT c.e r) r hr _ (hC.k1 st.chg) (st.res (i := 4) rfl) b5 (st.res (i := 2) rfl) hpx (Nat.le_trans hC.le hb5)) (by
    rintro _ w' ⟨f, hf, rfl, ch⟩ a ha
    exact And.intro ha (Or.inr ⟨_, rfl, f, by rw [hs, hf], rfl, st.chg.trans' ch (fun k hk => by
      rcases List.mem_cons.1 hk with rfl | hk
      · exact .inl (.head _)
      · exact .inr (by simp at hk; subst hk; exact hb5))⟩)) ?_)
  rintro _ w ⟨s, r2, hx, hsfr2, hlnr2, hP1, cw, oe, ob, ol, ce, cb, cl, Se, Sb, Sl, hX2, hE2, hB2, hL2, hN2⟩;rw [hx] at hs;have hN3 := hN2.le st.chg.size;have hS2 : SmS 27 171 w s (smC s oe ob ol ce cb cl) (Se ++ (Sb ++ Sl)) := SmS_iff.2 ⟨oe, ce, ob, cb, ol, cl, Se, Sb, Sl, rfl, hE2, hB2, hL2, rfl⟩;replace st := (st.pick [4, 2, 0, 1, 3] rfl (by decide)).prs2 cw (.inl (.head _)) (.inr hb5) hP1 hX2 (holds_sms hS2) hN2.2;refine a4 ?_;refine yla st 2 [_, _, _, _, _, _, _] Tryz.isAgg171 Tryz.sizeOf171 ?_;refine vc_e (ests st 5 [_, _, _, _, _, _, _] Tryz.sizeOf171 ?_);intro w st; dsimp only [setNth, wr] at st;refine a3 ?_;refine vq_ret1 st (.inl rfl) Tryz.results139 (by exact .cell 5 rfl rfl Tryz.isAgg171 Tryz.sizeOf171) ?_;refine .inl ⟨_, rfl, ?_⟩;exact ⟨s, r2, hs, hsfr2, hlnr2, (by exact st.rs 1), st.chg, oe, ob, ol, ce, cb, cl, _, rfl, (st.res (i := 0) rfl).1, hN3⟩
 intro hg23;(try simp only [dn] at hg23)
 have hs := stmtW_assign (e := c.e) (blk := blk) (ts := r) (.inl (by
   rcases getF5 (v1 := (.func (.func 152) [.pointer (some ⟨c.pb, 0, none⟩)].toArray #[])) (v2 := (.func (.func 153) [.pointer (some ⟨c.pb, 0, none⟩)].toArray #[])) (v3 := (.func (.func 154) [.pointer (some ⟨c.pb, 0, none⟩)].toArray #[])) (v4 := (.func (.func 155) [.pointer (some ⟨c.pb, 0, none⟩)].toArray #[])) (v5 := (.func (.func 156) [.pointer (some ⟨c.pb, 0, none⟩)].toArray #[])) (here r).text with ⟨_, he2⟩ | ⟨_, he2⟩ | ⟨_, he2⟩ | ⟨_, he2⟩ | ⟨_, he2⟩ | ⟨he1, _⟩
   all_goals first | exact he1 | (exfalso; rw [he2] at hg23; cases hg23)))
 refine a12 ?_
 refine vc_e (e_callp [_, _] rfl rfl Tryz.call147 rfl (passign_any c hR hg  (atT c.e r) r hr _ (hC.k1 st.chg) (st.res (i := 4) rfl) b5 (st.res (i := 2) rfl) hpx (Nat.le_trans hC.le hb5)) (by
   rintro _ w' ⟨f, hf, rfl, ch⟩ a ha
   exact And.intro ha (Or.inr ⟨_, rfl, f, by rw [hs, hf], rfl, st.chg.trans' ch (fun k hk => by
     rcases List.mem_cons.1 hk with rfl | hk
     · exact .inl (.head _)
     · exact .inr (by simp at hk; subst hk; exact hb5))⟩)) ?_)
 rintro _ w ⟨s, r2, hx, hsfr2, hlnr2, hP1, cw, oe, ob, ol, ce, cb, cl, Se, Sb, Sl, hX2, hE2, hB2, hL2, hN2⟩;rw [hx] at hs;have hN3 := hN2.le st.chg.size;have hS2 : SmS 27 171 w s (smC s oe ob ol ce cb cl) (Se ++ (Sb ++ Sl)) := SmS_iff.2 ⟨oe, ce, ob, cb, ol, cl, Se, Sb, Sl, rfl, hE2, hB2, hL2, rfl⟩;replace st := (st.pick [4, 2, 0, 1, 3] rfl (by decide)).prs2 cw (.inl (.head _)) (.inr hb5) hP1 hX2 (holds_sms hS2) hN2.2;refine a4 ?_;refine yla st 2 [_, _, _, _, _, _, _] Tryz.isAgg171 Tryz.sizeOf171 ?_;refine vc_e (ests st 5 [_, _, _, _, _, _, _] Tryz.sizeOf171 ?_);intro w st; dsimp only [setNth, wr] at st;refine a3 ?_;refine vq_ret1 st (.inl rfl) Tryz.results139 (by exact .cell 5 rfl rfl Tryz.isAgg171 Tryz.sizeOf171) ?_;refine .inl ⟨_, rfl, ?_⟩;exact ⟨s, r2, hs, hsfr2, hlnr2, (by exact st.rs 1), st.chg, oe, ob, ol, ce, cb, cl, _, rfl, (st.res (i := 0) rfl).1, hN3⟩
theorem pstmt_any (c : PCtx) (hR : c.R = 70) (hg : c.g = 0) : ∀ (m d : Nat), d + m = 64 → SRead c d (stmtP c.e m)
 | 0, d, h => by
  rw [stmtP_blk]
  exact pstmt_of c hR hg d _ (pblock_of c hR d 0 h (fun k hk => by omega))
 | m + 1, d, h => by
  rw [stmtP_blk]
  exact pstmt_of c hR hg d _ (pblock_of c hR d (m + 1) h (fun k hk => by
    obtain rfl : k = m := by omega
    exact pstmt_any c hR hg k (d + 1) (by omega)))
/-- the statements of a thread -/
theorem prest_any (c : PCtx) (hR : c.R = 70) (hg : c.g = 0) (r : List Tok) (hr : r <:+ c.ts) (w : World) (hC : PCok c w) (hP : PAt c r w) : RetP Tryz.prog 121 [.pointer (some ⟨c.pb, 0, none⟩), .int .i64 1] w
    (PRes c r (restP c.e 63 r) [c.pb] w (HB w)) (PErr c (restP c.e 63 r) [c.pb] w) := prest_of c hR 1 63 (r.length + 1) (pstmt_any c hR hg 63 1 rfl) r (Nat.lt_succ_self _) hr w hC hP

end Go.Proofs.YtjoepkpdanolkaaGreatDoor.Pq

