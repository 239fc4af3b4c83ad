/- A part of the proof: contracts of functions and plain laws; each theorem says its own conditions. -/
import Derived.Test.YtggnfanphcaamaaDoorK5
import Derived.Test.YtggnfanphcaamaaDoorK4
namespace Go.Proofs.YtggnfanphcaamaaDoor
open Go.RowKit Sx LexS ParS
set_option linter.unusedVariables false
set_option linter.unusedSimpArgs false
theorem punary_any (c : PCtx) (hR : c.R = 65) (hg : c.g = 0) : ∀ (m d : Nat), d + m = 64 → DRead 57 c d (unaryP c.e m)
  | 0, d, h => punary_of c hR d 0 h (fun k hk => by omega) (fun k hk => by omega)
  | m + 1, d, h => punary_of c hR d (m + 1) h (fun k hk => by
      obtain rfl : k = m := by omega
      exact pexpr_of c hR hg (d + 1) k (punary_any c hR hg k (d + 1) (by omega))) (fun k hk => by
      obtain rfl : k = m := by omega
      exact punary_any c hR hg k (d + 1) (by omega))
/-- an expression that lies in no other -/
theorem pexpr_any (c : PCtx) (hR : c.R = 65) (hg : c.g = 0) (r : List Tok) (hr : r <:+ c.ts) (w : World) (hC : PCok c w) (hP : PAt c r w) : RetP Tryd.prog 29 [.pointer (some ⟨c.pb, 0, none⟩), .int .i64 0] w
    (PRes c r (exprP c.e 64 r) [c.pb] w (HE w)) (PErr c (exprP c.e 64 r) [c.pb] w) := pexpr_of c hR hg 0 64 (punary_any c hR hg 64 0 rfl) r hr w hC hP
/-- a row of one expression -/
def HX (w : World) (x : Ex) (v : Value) (w' : World) : Prop := ∃ oq cq Sq, v = .slice oq 1 cq ∧ ExR 26 w' oq cq [x] Sq ∧ Nw w.heap.size Sq

theorem pcond_any (c : PCtx) (hR : c.R = 65) (hg : c.g = 0) (r : List Tok) (hr : r <:+ c.ts) (w : World) (hC : PCok c w) (hP : PAt c r w) : RetP Tryd.prog 117 [.pointer (some ⟨c.pb, 0, none⟩)] w
    (PRes c r (condP c.e r) [c.pb] w (HX w)) (PErr c (condP c.e r) [c.pb] w) := by
  refine retp_of [_] Tryd.func117 rfl Tryd.ntmps117 rfl ?_
  
  obtain ⟨w0, rfl⟩ : ∃ w0, w0 = w := ⟨_, rfl⟩
  have hP' := hP
  dsimp only [PAt, pcell] at hP
  have st := St.of1 [c.pb] hP
  have h20 := hC.len
  have hl := suf_len hr
  have hs := condP.eq_1 c.e r
  refine vc_seq ?_
  refine vc_region ?_
  refine vc_y rfl rfl (y_as rfl) ?_
  refine vc_end ?_
  refine vq_then ?_
  refine vc_keep [(0, _)] ⟨rfl, trivial⟩ ?_
  refine vc_seq ?_
  refine vc_region ?_
  refine vc_y rfl rfl (y_mv rfl) ?_
  refine vc_e (e_bs1 (l := [_]) st rfl rfl rfl rfl Tryd.underlying50 Tryd.sizeOf9 rfl rfl rfl Tryd.zeroValue9 ?_)
  intro b5 w hb5 st
  refine vc_e (e_callp [_, _] rfl rfl Tryd.call81 rfl (pwant_any c [[40]] (by simp) _ _ _ _ rfl r hr _ (hC.k1 st.chg) (by exact st.res (i := 1) rfl) hR (st.res (i := 0) rfl) (by exact st.bne 0 1 (by decide) rfl rfl)) (by rintro _ w' ⟨f, hf, rfl, ch⟩ a ha; rw [wantL_one] at hf; exact And.intro ha (Or.inr ⟨_, rfl, f, by rw [hs, hf], rfl, st.chg.trans ch⟩)) ?_)
  rintro _ w ⟨r1, hx, hsfr1, hlnr1, hP1, cw⟩
  rw [wantL_one] at hx
  rw [hx] at hs; dsimp only at hs
  first
  | replace st := St.prs (b := c.pb) st 0 rfl cw (.inl (.head _)) hP1
  | replace st := St.prs (b := c.pb) st 1 rfl cw (.inl (.head _)) hP1
  | replace st := St.prs (b := c.pb) st 2 rfl cw (.inl (.head _)) hP1
  | replace st := St.prs (b := c.pb) st 3 rfl cw (.inl (.head _)) hP1
  | replace st := St.prs (b := c.pb) st 4 rfl cw (.inl (.head _)) hP1
  | replace st := St.prs (b := c.pb) st 5 rfl cw (.inl (.head _)) hP1
  | replace st := St.prs (b := c.pb) st 6 rfl cw (.inl (.head _)) hP1
  | replace st := St.prs (b := c.pb) st 7 rfl cw (.inl (.head _)) hP1
  | replace st := St.prs (b := c.pb) st 8 rfl cw (.inl (.head _)) hP1
  | replace st := St.prs (b := c.pb) st 9 rfl cw (.inl (.head _)) hP1
  dsimp only [setNth] at st
  have hr1 := hsfr1.trans hr
  refine vc_end ?_
  refine vq_then ?_
  refine vc_keep [(0, _)] ⟨rfl, trivial⟩ ?_
  refine vc_seq ?_
  refine vc_region ?_
  refine vc_y rfl rfl (y_mv rfl) ?_
  refine vc_e (e_callp [_, _] rfl rfl Tryd.call29 rfl (pexpr_any c hR hg r1 hr1 _ (hC.k1 st.chg) (by exact st.res (i := 1) rfl)) (by rintro _ w' ⟨f, hf, rfl, ch⟩ a ha; exact And.intro ha (Or.inr ⟨_, rfl, f, by rw [hs, hf], rfl, st.chg.trans ch⟩)) ?_)
  rintro _ w ⟨x, r2, hx, hsfr2, hlnr2, hP1, cw, ox, cx, Sx, rfl, hQ, hN⟩
  have hNSx := hN.le st.chg.size
  first
  | replace st := St.prsT (b := c.pb) st 0 rfl cw (.inl (.head _)) hP1 (holds_ex hQ) hN.2
  | replace st := St.prsT (b := c.pb) st 1 rfl cw (.inl (.head _)) hP1 (holds_ex hQ) hN.2
  | replace st := St.prsT (b := c.pb) st 2 rfl cw (.inl (.head _)) hP1 (holds_ex hQ) hN.2
  | replace st := St.prsT (b := c.pb) st 3 rfl cw (.inl (.head _)) hP1 (holds_ex hQ) hN.2
  | replace st := St.prsT (b := c.pb) st 4 rfl cw (.inl (.head _)) hP1 (holds_ex hQ) hN.2
  | replace st := St.prsT (b := c.pb) st 5 rfl cw (.inl (.head _)) hP1 (holds_ex hQ) hN.2
  | replace st := St.prsT (b := c.pb) st 6 rfl cw (.inl (.head _)) hP1 (holds_ex hQ) hN.2
  | replace st := St.prsT (b := c.pb) st 7 rfl cw (.inl (.head _)) hP1 (holds_ex hQ) hN.2
  | replace st := St.prsT (b := c.pb) st 8 rfl cw (.inl (.head _)) hP1 (holds_ex hQ) hN.2
  | replace st := St.prsT (b := c.pb) st 9 rfl cw (.inl (.head _)) hP1 (holds_ex hQ) hN.2
  dsimp only [setNth] at st
  rw [hx] at hs; dsimp only at hs
  have hr2 := hsfr2.trans hr1
  refine vc_e (e_al (l := [_, _, _, _, _, _]) st rfl rfl Tryd.zeroValue26 rfl ?_)
  intro b3 w hb3 st
  refine vc_e (e_sts (vs := [_, _, _, _, _, _]) st 0 rfl rfl rfl rfl rfl Tryd.sizeOf26 rfl rfl (by first | (right; assumption) | (left; simp)) ?_)
  intro w st; dsimp only [setNth, wr] at st
  refine vc_end ?_
  refine vq_then ?_
  refine vc_keep [(0, _), (3, _)] ⟨rfl, rfl, trivial⟩ ?_
  refine vc_seq ?_
  refine vc_region ?_
  refine vc_y rfl rfl (y_mv rfl) ?_
  refine vc_e (e_bs1 (l := [_]) st rfl rfl rfl rfl Tryd.underlying50 Tryd.sizeOf9 rfl rfl rfl Tryd.zeroValue9 ?_)
  intro b10 w hb10 st
  refine vc_e (e_callp [_, _] rfl rfl Tryd.call81 rfl (pwant_any c [[41]] (by simp) _ _ _ _ rfl r2 hr2 _ (hC.k1 st.chg) (by exact st.res (i := 4) rfl) hR (st.res (i := 0) rfl) (by exact st.bne 0 4 (by decide) rfl rfl)) (by rintro _ w' ⟨f, hf, rfl, ch⟩ a ha; rw [wantL_one] at hf; exact And.intro ha (Or.inr ⟨_, rfl, f, by rw [hs, hf], rfl, st.chg.trans ch⟩)) ?_)
  rintro _ w ⟨r3, hx, hsfr3, hlnr3, hP1, cw⟩
  rw [wantL_one] at hx
  rw [hx] at hs; dsimp only at hs
  first
  | replace st := St.prs (b := c.pb) st 0 rfl cw (.inl (.head _)) hP1
  | replace st := St.prs (b := c.pb) st 1 rfl cw (.inl (.head _)) hP1
  | replace st := St.prs (b := c.pb) st 2 rfl cw (.inl (.head _)) hP1
  | replace st := St.prs (b := c.pb) st 3 rfl cw (.inl (.head _)) hP1
  | replace st := St.prs (b := c.pb) st 4 rfl cw (.inl (.head _)) hP1
  | replace st := St.prs (b := c.pb) st 5 rfl cw (.inl (.head _)) hP1
  | replace st := St.prs (b := c.pb) st 6 rfl cw (.inl (.head _)) hP1
  | replace st := St.prs (b := c.pb) st 7 rfl cw (.inl (.head _)) hP1
  | replace st := St.prs (b := c.pb) st 8 rfl cw (.inl (.head _)) hP1
  | replace st := St.prs (b := c.pb) st 9 rfl cw (.inl (.head _)) hP1
  dsimp only [setNth] at st
  have hr3 := hsfr3.trans hr2
  refine vc_end ?_
  refine vq_then ?_
  refine vc_keep [(3, _)] ⟨rfl, trivial⟩ ?_
  refine vc_seq ?_
  refine vc_region ?_
  refine vc_y rfl rfl ((by exact y_lda (vs := [_, _, _, _, _, _]) st 1 rfl Tryd.isAgg26 Tryd.sizeOf26 rfl rfl)) ?_
  refine vc_e (e_bs1 (l := [_, _, _, _, _, _]) st rfl rfl rfl rfl Tryd.underlying24 Tryd.sizeOf26 rfl rfl rfl Tryd.zeroValue26 ?_)
  intro b13 w hb13 st
  refine vc_y rfl rfl (y_as rfl) ?_
  refine vc_end ?_
  refine vq_then ?_
  refine vc_keep [(2, _)] ⟨rfl, trivial⟩ ?_
  refine vc_ret ?_
  refine vq_ret1 st (.inl rfl) Tryd.results117 (.tmp rfl) ?_
  refine .inl ⟨_, rfl, ?_⟩
  exact ⟨x, r3, hs, hsfr3.trans (hsfr2.trans hsfr1), by simp at hlnr3 hlnr1; omega, (by exact st.res (i := 5) rfl), st.chg, some ⟨b13, 0, none⟩, 1, b13 :: Sx, rfl, ex_one (st.res (i := 0) rfl) (by exact (st.res (i := 3) rfl).1), Nw.app (S := [b13]) ⟨by simp, by simpa using hb13⟩ hNSx (fun b hb hb' => by exact st.ne (i := 0) (j := 3) (by decide) rfl rfl b hb hb')⟩

theorem pskip_any (c : PCtx) (hR : c.R = 65) (hg : c.g = 0) (a : Nat) (r : List Tok) (hr : r <:+ c.ts) (w : World) (hC : PCok c w) (hP : PAt c r w) (xb : Nat) (hX : w.heap[xb]? = some (.cells (sm00 (a : Int)).toArray 83 (0, 0))) (hne : c.pb ≠ xb) (hxn : c.n0 ≤ xb) (dv : Value) : RetP Tryd.prog 115 [.pointer (some ⟨c.pb, 0, none⟩), .pointer (some ⟨xb, 0, none⟩), dv] w
    (PRes c r (skipP c.e a r) [c.pb, xb] w (fun s _ w' => StIn 26 83 xb w.heap.size s w')) (PErr c (skipP c.e a r) [c.pb, xb] w) := by
  refine retp_of [_, _, _] Tryd.func115 rfl Tryd.ntmps115 rfl ?_
  
  obtain ⟨w0, rfl⟩ : ∃ w0, w0 = w := ⟨_, rfl⟩
  have hP' := hP
  dsimp only [PAt, pcell] at hP
  have st := St.of2 [c.pb, xb] hP hX hne
  have KC : ∀ {w'}, Chg [c.pb, xb] w0 w' → PCok c w' := fun ch => hC.k2 ch hxn
  have h20 := hC.len
  have hl := suf_len hr
  have hs := skipP.eq_1 c.e a r
  refine vc_seq ?_
  refine vc_region ?_
  refine vc_y rfl rfl (y_mv rfl) ?_
  refine vc_y rfl rfl (y_nck rfl) ?_
  refine vc_y rfl rfl (y_fa0 rfl Tryd.underlying83 rfl rfl Tryd.sizeOf81 rfl) ?_
  refine vc_e (e_st st 1 rfl rfl rfl rfl Tryd.sizeOf81 rfl rfl (by first | (right; assumption) | (left; simp)) ?_)
  intro w st; dsimp only [setNth, wr] at st
  refine vc_end ?_
  refine vq_then ?_
  refine vc_keep [(0, _)] ⟨rfl, trivial⟩ ?_
  refine vc_region ?_
  refine vc_y rfl rfl (y_mv rfl) ?_
  refine vc_e (e_bs1 (l := [_]) st rfl rfl rfl rfl Tryd.underlying50 Tryd.sizeOf9 rfl rfl rfl Tryd.zeroValue9 ?_)
  intro b10 w hb10 st
  refine vc_e (e_callp [_, _] rfl rfl Tryd.call81 rfl (pwant_any c [[59]] (by simp) _ _ _ _ rfl r hr _ (KC st.chg) (by exact st.res (i := 1) rfl) hR (st.res (i := 0) rfl) (by exact st.bne 0 1 (by decide) rfl rfl)) (by rintro _ w' ⟨f, hf, rfl, ch⟩ a ha; rw [wantL_one] at hf; exact And.intro ha (Or.inr ⟨_, rfl, f, by rw [hs, hf], rfl, st.chg.trans (ch.mono (by simp))⟩)) ?_)
  rintro _ w ⟨r1, hx, hsfr1, hlnr1, hP1, cw⟩
  rw [wantL_one] at hx
  rw [hx] at hs; dsimp only at hs
  first
  | replace st := St.prs (b := c.pb) st 0 rfl cw (.inl (.head _)) hP1
  | replace st := St.prs (b := c.pb) st 1 rfl cw (.inl (.head _)) hP1
  | replace st := St.prs (b := c.pb) st 2 rfl cw (.inl (.head _)) hP1
  | replace st := St.prs (b := c.pb) st 3 rfl cw (.inl (.head _)) hP1
  | replace st := St.prs (b := c.pb) st 4 rfl cw (.inl (.head _)) hP1
  | replace st := St.prs (b := c.pb) st 5 rfl cw (.inl (.head _)) hP1
  | replace st := St.prs (b := c.pb) st 6 rfl cw (.inl (.head _)) hP1
  | replace st := St.prs (b := c.pb) st 7 rfl cw (.inl (.head _)) hP1
  | replace st := St.prs (b := c.pb) st 8 rfl cw (.inl (.head _)) hP1
  | replace st := St.prs (b := c.pb) st 9 rfl cw (.inl (.head _)) hP1
  dsimp only [setNth] at st
  have hr1 := hsfr1.trans hr
  refine vc_end ?_
  refine vq_ret0 (.inr rfl) Tryd.results115 ?_
  refine .inl ⟨_, rfl, ?_⟩
  exact ⟨_, r1, hs, hsfr1, by simp at hlnr1; omega, (by exact st.res (i := 1) rfl), st.chg, none, none, none, 0, 0, 0, [], [], [], (by exact st.res (i := 2) rfl), exr_nil, smr_nil, smr_nil, Nw.nil⟩

theorem pprint_any (c : PCtx) (hR : c.R = 65) (hg : c.g = 0) (a : Nat) (r : List Tok) (hr : r <:+ c.ts) (w : World) (hC : PCok c w) (hP : PAt c r w) (xb : Nat) (hX : w.heap[xb]? = some (.cells (sm00 (a : Int)).toArray 83 (0, 0))) (hne : c.pb ≠ xb) (hxn : c.n0 ≤ xb) (dv : Value) : RetP Tryd.prog 114 [.pointer (some ⟨c.pb, 0, none⟩), .pointer (some ⟨xb, 0, none⟩), dv] w
    (PRes c r (printP c.e a r) [c.pb, xb] w (fun s _ w' => StIn 26 83 xb w.heap.size s w')) (PErr c (printP c.e a r) [c.pb, xb] w) := by
  refine retp_of [_, _, _] Tryd.func114 rfl Tryd.ntmps114 rfl ?_
  
  obtain ⟨w0, rfl⟩ : ∃ w0, w0 = w := ⟨_, rfl⟩
  have hP' := hP
  dsimp only [PAt, pcell] at hP
  have st := St.of2 [c.pb, xb] hP hX hne
  have KC : ∀ {w'}, Chg [c.pb, xb] w0 w' → PCok c w' := fun ch => hC.k2 ch hxn
  have h20 := hC.len
  have hl := suf_len hr
  have hs := printP.eq_1 c.e a r
  refine vc_seq ?_
  refine vc_region ?_
  refine vc_y rfl rfl (y_mv rfl) ?_
  refine vc_y rfl rfl (y_mv rfl) ?_
  refine vc_y rfl rfl (y_mv rfl) ?_
  refine vc_e (e_callp [_, _] rfl rfl Tryd.call29 rfl (pexpr_any c hR hg r hr _ (KC st.chg) (by exact st.res (i := 0) rfl)) (by rintro _ w' ⟨f, hf, rfl, ch⟩ a ha; exact And.intro ha (Or.inr ⟨_, rfl, f, by rw [hs, hf], rfl, st.chg.trans (ch.mono (by simp))⟩)) ?_)
  rintro _ w ⟨x, r1, hx, hsfr1, hlnr1, hP1, cw, ox, cx, Sx, rfl, hQ, hN⟩
  have hNSx := hN.le st.chg.size
  first
  | replace st := St.prsT (b := c.pb) st 0 rfl cw (.inl (.head _)) hP1 (holds_ex hQ) hN.2
  | replace st := St.prsT (b := c.pb) st 1 rfl cw (.inl (.head _)) hP1 (holds_ex hQ) hN.2
  | replace st := St.prsT (b := c.pb) st 2 rfl cw (.inl (.head _)) hP1 (holds_ex hQ) hN.2
  | replace st := St.prsT (b := c.pb) st 3 rfl cw (.inl (.head _)) hP1 (holds_ex hQ) hN.2
  | replace st := St.prsT (b := c.pb) st 4 rfl cw (.inl (.head _)) hP1 (holds_ex hQ) hN.2
  | replace st := St.prsT (b := c.pb) st 5 rfl cw (.inl (.head _)) hP1 (holds_ex hQ) hN.2
  | replace st := St.prsT (b := c.pb) st 6 rfl cw (.inl (.head _)) hP1 (holds_ex hQ) hN.2
  | replace st := St.prsT (b := c.pb) st 7 rfl cw (.inl (.head _)) hP1 (holds_ex hQ) hN.2
  | replace st := St.prsT (b := c.pb) st 8 rfl cw (.inl (.head _)) hP1 (holds_ex hQ) hN.2
  | replace st := St.prsT (b := c.pb) st 9 rfl cw (.inl (.head _)) hP1 (holds_ex hQ) hN.2
  dsimp only [setNth] at st
  rw [hx] at hs; dsimp only at hs
  have hr1 := hsfr1.trans hr
  refine vc_e (e_bs1 (l := [_, _, _, _, _, _]) st rfl rfl rfl rfl Tryd.underlying24 Tryd.sizeOf26 rfl rfl rfl Tryd.zeroValue26 ?_)
  intro b10 w hb10 st
  have hE := ex_one (st.res (i := 0) rfl) (st.res (i := 1) rfl).1
  have hNe : Nw w0.heap.size (b10 :: Sx) := Nw.app (S := [b10]) ⟨by simp, by simpa using hb10⟩ hNSx (fun b hb hb' => st.ne (i := 0) (j := 1) (by decide) rfl rfl b hb hb')
  replace st := st.join (q := .tree (b10 :: Sx) fun w => ExR 26 w (some ⟨b10, 0, none⟩) 1 [x] (b10 :: Sx)) (fun k hk => by
    rcases List.mem_cons.1 hk with rfl | hk
    · exact .inl (.head _)
    · exact .inr hk) (holds_ex hE)
  refine vc_y rfl rfl (y_nck rfl) ?_
  refine vc_y rfl rfl (y_fa0 rfl Tryd.underlying83 rfl rfl Tryd.sizeOf81 rfl) ?_
  refine vc_e (e_st st 2 rfl rfl rfl rfl Tryd.sizeOf81 rfl rfl (by first | (right; assumption) | (left; simp)) ?_)
  intro w st; dsimp only [setNth, wr] at st
  refine vc_y rfl rfl (y_nck rfl) ?_
  refine vc_y rfl rfl ((by exact y_faz (k := 3) rfl Tryd.underlying83 rfl rfl Tryd.sizeOf24 rfl)) ?_
  refine vc_e (e_st st 2 rfl rfl rfl rfl Tryd.sizeOf24 rfl rfl (by first | (right; assumption) | (left; simp)) ?_)
  intro w st; dsimp only [setNth, wr] at st
  refine vc_end ?_
  refine vq_then ?_
  refine vc_keep [(0, _)] ⟨rfl, trivial⟩ ?_
  refine vc_region ?_
  refine vc_y rfl rfl (y_mv rfl) ?_
  refine vc_e (e_bs1 (l := [_]) st rfl rfl rfl rfl Tryd.underlying50 Tryd.sizeOf9 rfl rfl rfl Tryd.zeroValue9 ?_)
  intro b16 w hb16 st
  refine vc_e (e_callp [_, _] rfl rfl Tryd.call81 rfl (pwant_any c [[59]] (by simp) _ _ _ _ rfl r1 hr1 _ (KC st.chg) (by exact st.res (i := 2) rfl) hR (st.res (i := 0) rfl) (by exact st.bne 0 2 (by decide) rfl rfl)) (by rintro _ w' ⟨f, hf, rfl, ch⟩ a ha; rw [wantL_one] at hf; exact And.intro ha (Or.inr ⟨_, rfl, f, by rw [hs, hf], rfl, st.chg.trans (ch.mono (by simp))⟩)) ?_)
  rintro _ w ⟨r2, hx, hsfr2, hlnr2, hP1, cw⟩
  rw [wantL_one] at hx
  rw [hx] at hs; dsimp only at hs
  first
  | replace st := St.prs (b := c.pb) st 0 rfl cw (.inl (.head _)) hP1
  | replace st := St.prs (b := c.pb) st 1 rfl cw (.inl (.head _)) hP1
  | replace st := St.prs (b := c.pb) st 2 rfl cw (.inl (.head _)) hP1
  | replace st := St.prs (b := c.pb) st 3 rfl cw (.inl (.head _)) hP1
  | replace st := St.prs (b := c.pb) st 4 rfl cw (.inl (.head _)) hP1
  | replace st := St.prs (b := c.pb) st 5 rfl cw (.inl (.head _)) hP1
  | replace st := St.prs (b := c.pb) st 6 rfl cw (.inl (.head _)) hP1
  | replace st := St.prs (b := c.pb) st 7 rfl cw (.inl (.head _)) hP1
  | replace st := St.prs (b := c.pb) st 8 rfl cw (.inl (.head _)) hP1
  | replace st := St.prs (b := c.pb) st 9 rfl cw (.inl (.head _)) hP1
  dsimp only [setNth] at st
  have hr2 := hsfr2.trans hr1
  refine vc_end ?_
  refine vq_ret0 (.inr rfl) Tryd.results114 ?_
  refine .inl ⟨_, rfl, ?_⟩
  exact ⟨_, r2, hs, hsfr2.trans hsfr1, by simp at hlnr2; omega, (by exact st.res (i := 2) rfl), st.chg, some ⟨b10, 0, none⟩, none, none, 1, 0, 0, b10 :: Sx, [], [], (by exact st.res (i := 3) rfl), (by exact (st.res (i := 1) rfl).1), smr_nil, smr_nil, by simpa using hNe⟩

set_option maxHeartbeats 1000000 in
theorem passign_any (c : PCtx) (hR : c.R = 65) (hg : c.g = 0) (a : Nat) (r : List Tok) (hr : r <:+ c.ts) (w : World) (hC : PCok c w) (hP : PAt c r w) (xb : Nat) (hX : w.heap[xb]? = some (.cells (sm00 (a : Int)).toArray 83 (0, 0))) (hne : c.pb ≠ xb) (hxn : c.n0 ≤ xb) : RetP Tryd.prog 108 [.pointer (some ⟨c.pb, 0, none⟩), .pointer (some ⟨xb, 0, none⟩)] w
    (PRes c r (assignP c.e a r) [c.pb, xb] w (fun s _ w' => StIn 26 83 xb w.heap.size s w')) (PErr c (assignP c.e a r) [c.pb, xb] w) := by
  refine retp_of [_, _] Tryd.func108 rfl Tryd.ntmps108 rfl ?_
  
  obtain ⟨w0, rfl⟩ : ∃ w0, w0 = w := ⟨_, rfl⟩
  have hP' := hP
  dsimp only [PAt, pcell] at hP
  have st := St.of2 [c.pb, xb] hP hX hne
  have KC : ∀ {w'}, Chg [c.pb, xb] w0 w' → PCok c w' := fun ch => hC.k2 ch hxn
  have h20 := hC.len
  have hl := suf_len hr
  have hs := assignP_eq c.e a r
  refine vc_seq ?_
  refine vc_region ?_
  refine vc_y rfl rfl (y_mv rfl) ?_
  refine vc_y rfl rfl (y_mv rfl) ?_
  refine vc_y rfl rfl (y_mv rfl) ?_
  refine vc_e (e_callp [_] rfl rfl Tryd.call87 rfl (pname_any c hR r hr _ (KC st.chg) (by exact st.res (i := 0) rfl)) (by rintro _ w' ⟨f, hf, rfl, ch⟩ a ha; exact And.intro ha (Or.inr ⟨_, rfl, f, by rw [hs, hf], rfl, st.chg.trans (ch.mono (by simp))⟩)) ?_)
  rintro _ w ⟨t, r1, hx, hsf, hln, hP1, cw, rfl⟩
  first
  | replace st := St.prs (b := c.pb) st 0 rfl cw (.inl (.head _)) hP1
  | replace st := St.prs (b := c.pb) st 1 rfl cw (.inl (.head _)) hP1
  | replace st := St.prs (b := c.pb) st 2 rfl cw (.inl (.head _)) hP1
  | replace st := St.prs (b := c.pb) st 3 rfl cw (.inl (.head _)) hP1
  | replace st := St.prs (b := c.pb) st 4 rfl cw (.inl (.head _)) hP1
  | replace st := St.prs (b := c.pb) st 5 rfl cw (.inl (.head _)) hP1
  | replace st := St.prs (b := c.pb) st 6 rfl cw (.inl (.head _)) hP1
  | replace st := St.prs (b := c.pb) st 7 rfl cw (.inl (.head _)) hP1
  | replace st := St.prs (b := c.pb) st 8 rfl cw (.inl (.head _)) hP1
  | replace st := St.prs (b := c.pb) st 9 rfl cw (.inl (.head _)) hP1
  dsimp only [setNth] at st
  rw [hx] at hs; dsimp only at hs
  have hr1 := hsf.trans hr
  have hsfr1 := hsf
  have hlnr1 := hln
  refine vc_y rfl rfl (y_fld rfl Tryd.underlying53 rfl rfl Tryd.isAgg9 rfl) ?_
  refine vc_y rfl rfl (y_nck rfl) ?_
  refine vc_y rfl rfl (y_fa0 rfl Tryd.underlying83 rfl rfl Tryd.sizeOf81 rfl) ?_
  refine vc_e (e_st st 1 rfl rfl rfl rfl Tryd.sizeOf81 rfl rfl (by first | (right; assumption) | (left; simp)) ?_)
  intro w st; dsimp only [setNth, wr] at st
  refine vc_y rfl rfl (y_nck rfl) ?_
  refine vc_y rfl rfl ((by exact y_faz (k := 1) rfl Tryd.underlying83 rfl rfl Tryd.sizeOf9 rfl)) ?_
  refine vc_e (e_st st 1 rfl rfl rfl rfl Tryd.sizeOf9 rfl rfl (by first | (right; assumption) | (left; simp)) ?_)
  intro w st; dsimp only [setNth, wr] at st
  refine vc_end ?_
  refine vq_then ?_
  refine vc_keep [(0, _), (1, _)] ⟨rfl, rfl, trivial⟩ ?_
  refine vc_seq ?_
  refine vc_region ?_
  refine vc_y rfl rfl (y_mv rfl) ?_
  refine vc_e (e_bs1 (l := [_]) st rfl rfl rfl rfl Tryd.underlying50 Tryd.sizeOf9 rfl rfl rfl Tryd.zeroValue9 ?_)
  intro b14 w hb14 st
  refine vc_e (e_callp [_, _] rfl rfl Tryd.call81 rfl (pwant_any c [[61]] (by simp) _ _ _ _ rfl r1 hr1 _ (KC st.chg) (by exact st.res (i := 1) rfl) hR (st.res (i := 0) rfl) (by exact st.bne 0 1 (by decide) rfl rfl)) (by rintro _ w' ⟨f, hf, rfl, ch⟩ a ha; rw [wantL_one] at hf; exact And.intro ha (Or.inr ⟨_, rfl, f, by rw [hs, hf], rfl, st.chg.trans (ch.mono (by simp))⟩)) ?_)
  rintro _ w ⟨r2, hx, hsfr2, hlnr2, hP1, cw⟩
  rw [wantL_one] at hx
  rw [hx] at hs; dsimp only at hs
  first
  | replace st := St.prs (b := c.pb) st 0 rfl cw (.inl (.head _)) hP1
  | replace st := St.prs (b := c.pb) st 1 rfl cw (.inl (.head _)) hP1
  | replace st := St.prs (b := c.pb) st 2 rfl cw (.inl (.head _)) hP1
  | replace st := St.prs (b := c.pb) st 3 rfl cw (.inl (.head _)) hP1
  | replace st := St.prs (b := c.pb) st 4 rfl cw (.inl (.head _)) hP1
  | replace st := St.prs (b := c.pb) st 5 rfl cw (.inl (.head _)) hP1
  | replace st := St.prs (b := c.pb) st 6 rfl cw (.inl (.head _)) hP1
  | replace st := St.prs (b := c.pb) st 7 rfl cw (.inl (.head _)) hP1
  | replace st := St.prs (b := c.pb) st 8 rfl cw (.inl (.head _)) hP1
  | replace st := St.prs (b := c.pb) st 9 rfl cw (.inl (.head _)) hP1
  dsimp only [setNth] at st
  have hr2 := hsfr2.trans hr1
  refine vc_end ?_
  refine vq_then ?_
  refine vc_keep [(0, _), (1, _)] ⟨rfl, rfl, trivial⟩ ?_
  refine vc_seq ?_
  refine vc_seq ?_
  refine vc_region ?_
  refine vc_y rfl rfl (y_mv rfl) ?_
  refine vc_e (e_call [_, _] rfl rfl Tryd.call67 rfl (ptake_any c wSwap r2 hr2 _ (KC st.chg) (by exact st.res (i := 1) rfl)) ?_)
  rintro _ w ⟨rfl, hP1, cw⟩
  first
  | replace st := St.prs (b := c.pb) st 0 rfl cw (.inl (.head _)) hP1
  | replace st := St.prs (b := c.pb) st 1 rfl cw (.inl (.head _)) hP1
  | replace st := St.prs (b := c.pb) st 2 rfl cw (.inl (.head _)) hP1
  | replace st := St.prs (b := c.pb) st 3 rfl cw (.inl (.head _)) hP1
  | replace st := St.prs (b := c.pb) st 4 rfl cw (.inl (.head _)) hP1
  | replace st := St.prs (b := c.pb) st 5 rfl cw (.inl (.head _)) hP1
  | replace st := St.prs (b := c.pb) st 6 rfl cw (.inl (.head _)) hP1
  | replace st := St.prs (b := c.pb) st 7 rfl cw (.inl (.head _)) hP1
  | replace st := St.prs (b := c.pb) st 8 rfl cw (.inl (.head _)) hP1
  | replace st := St.prs (b := c.pb) st 9 rfl cw (.inl (.head _)) hP1
  dsimp only [setNth] at st
  refine vc_y rfl rfl (y_not rfl) ?_
  refine vc_end ?_
  refine vq_then ?_
  refine vc_keep [(0, _), (1, _), (18, _)] ⟨rfl, rfl, rfl, trivial⟩ ?_
  refine vc_ifs rfl ?_ ?_
  · intro hc18
    try simp only [dn] at hc18
    have hF : isT wSwap r2 = false := by simpa using hc18
    simp only [hF, Bool.false_eq_true, if_false] at st hs
    refine vc_seq ?_
    refine vc_region ?_
    refine vc_y rfl rfl (y_mv rfl) ?_
    refine vc_y rfl rfl (y_mv rfl) ?_
    refine vc_e (e_callp [_, _] rfl rfl Tryd.call29 rfl (pexpr_any c hR hg r2 hr2 _ (KC st.chg) (by exact st.res (i := 1) rfl)) (by rintro _ w' ⟨f, hf, rfl, ch⟩ a ha; exact And.intro ha (Or.inr ⟨_, rfl, f, by rw [hs, hf], rfl, st.chg.trans (ch.mono (by simp))⟩)) ?_)
    rintro _ w ⟨x, r3, hx, hsfr3, hlnr3, hP1, cw, ox, cx, Sx, rfl, hQ, hN⟩
    have hNSx := hN.le st.chg.size
    first
    | replace st := St.prsT (b := c.pb) st 0 rfl cw (.inl (.head _)) hP1 (holds_ex hQ) hN.2
    | replace st := St.prsT (b := c.pb) st 1 rfl cw (.inl (.head _)) hP1 (holds_ex hQ) hN.2
    | replace st := St.prsT (b := c.pb) st 2 rfl cw (.inl (.head _)) hP1 (holds_ex hQ) hN.2
    | replace st := St.prsT (b := c.pb) st 3 rfl cw (.inl (.head _)) hP1 (holds_ex hQ) hN.2
    | replace st := St.prsT (b := c.pb) st 4 rfl cw (.inl (.head _)) hP1 (holds_ex hQ) hN.2
    | replace st := St.prsT (b := c.pb) st 5 rfl cw (.inl (.head _)) hP1 (holds_ex hQ) hN.2
    | replace st := St.prsT (b := c.pb) st 6 rfl cw (.inl (.head _)) hP1 (holds_ex hQ) hN.2
    | replace st := St.prsT (b := c.pb) st 7 rfl cw (.inl (.head _)) hP1 (holds_ex hQ) hN.2
    | replace st := St.prsT (b := c.pb) st 8 rfl cw (.inl (.head _)) hP1 (holds_ex hQ) hN.2
    | replace st := St.prsT (b := c.pb) st 9 rfl cw (.inl (.head _)) hP1 (holds_ex hQ) hN.2
    dsimp only [setNth] at st
    rw [hx] at hs; dsimp only at hs
    have hr3 := hsfr3.trans hr2
    refine vc_e (e_bs1 (l := [_, _, _, _, _, _]) st rfl rfl rfl rfl Tryd.underlying24 Tryd.sizeOf26 rfl rfl rfl Tryd.zeroValue26 ?_)
    intro b22 w hb22 st
    have hE := ex_one (st.res (i := 0) rfl) (st.res (i := 1) rfl).1
    have hNe : Nw w0.heap.size (b22 :: Sx) := Nw.app (S := [b22]) ⟨by simp, by simpa using hb22⟩ hNSx (fun b hb hb' => st.ne (i := 0) (j := 1) (by decide) rfl rfl b hb hb')
    replace st := st.join (q := .tree (b22 :: Sx) fun w => ExR 26 w (some ⟨b22, 0, none⟩) 1 [x] (b22 :: Sx)) (fun k hk => by
      rcases List.mem_cons.1 hk with rfl | hk
      · exact .inl (.head _)
      · exact .inr hk) (holds_ex hE)
    refine vc_y rfl rfl (y_nck rfl) ?_
    refine vc_y rfl rfl ((by exact y_faz (k := 3) rfl Tryd.underlying83 rfl rfl Tryd.sizeOf24 rfl)) ?_
    refine vc_e (e_st st 3 rfl rfl rfl rfl Tryd.sizeOf24 rfl rfl (by first | (right; assumption) | (left; simp)) ?_)
    intro w st; dsimp only [setNth, wr] at st
    refine vc_end ?_
    refine vq_then ?_
    refine vc_keep [(0, _)] ⟨rfl, trivial⟩ ?_
    refine vc_seq ?_
    refine vc_region ?_
    refine vc_y rfl rfl (y_mv rfl) ?_
    refine vc_e (e_bs1 (l := [_]) st rfl rfl rfl rfl Tryd.underlying50 Tryd.sizeOf9 rfl rfl rfl Tryd.zeroValue9 ?_)
    intro b26 w hb26 st
    refine vc_e (e_callp [_, _] rfl rfl Tryd.call81 rfl (pwant_any c [[59]] (by simp) _ _ _ _ rfl r3 hr3 _ (KC st.chg) (by exact st.res (i := 3) rfl) hR (st.res (i := 0) rfl) (by exact st.bne 0 3 (by decide) rfl rfl)) (by rintro _ w' ⟨f, hf, rfl, ch⟩ a ha; rw [wantL_one] at hf; exact And.intro ha (Or.inr ⟨_, rfl, f, by rw [hs, hf], rfl, st.chg.trans (ch.mono (by simp))⟩)) ?_)
    rintro _ w ⟨r4, hx, hsfr4, hlnr4, hP1, cw⟩
    rw [wantL_one] at hx
    rw [hx] at hs; dsimp only at hs
    first
    | replace st := St.prs (b := c.pb) st 0 rfl cw (.inl (.head _)) hP1
    | replace st := St.prs (b := c.pb) st 1 rfl cw (.inl (.head _)) hP1
    | replace st := St.prs (b := c.pb) st 2 rfl cw (.inl (.head _)) hP1
    | replace st := St.prs (b := c.pb) st 3 rfl cw (.inl (.head _)) hP1
    | replace st := St.prs (b := c.pb) st 4 rfl cw (.inl (.head _)) hP1
    | replace st := St.prs (b := c.pb) st 5 rfl cw (.inl (.head _)) hP1
    | replace st := St.prs (b := c.pb) st 6 rfl cw (.inl (.head _)) hP1
    | replace st := St.prs (b := c.pb) st 7 rfl cw (.inl (.head _)) hP1
    | replace st := St.prs (b := c.pb) st 8 rfl cw (.inl (.head _)) hP1
    | replace st := St.prs (b := c.pb) st 9 rfl cw (.inl (.head _)) hP1
    dsimp only [setNth] at st
    have hr4 := hsfr4.trans hr3
    refine vc_end ?_
    refine vq_then ?_
    refine vc_keep [] trivial ?_
    refine vc_ret ?_
    refine vq_then_ret ?_
    refine vq_ret0 (.inl rfl) Tryd.results108 ?_
    refine .inl ⟨_, rfl, ?_⟩
    exact ⟨_, r4, hs, hsfr4.trans (hsfr3.trans (hsfr2.trans hsfr1)), by simp at hlnr4 hlnr2; omega, (by exact st.res (i := 3) rfl), st.chg, some ⟨b22, 0, none⟩, none, none, 1, 0, 0, b22 :: Sx, [], [], (by exact st.res (i := 4) rfl), (by exact (st.res (i := 1) rfl).1), smr_nil, smr_nil, by simpa using hNe⟩
  · intro hc18
    try simp only [dn] at hc18
    have hT : isT wSwap r2 = true := by simpa using hc18
    simp only [hT, if_true] at st hs
    have ht := tail_lt (isT_ne hT)
    have hr3 := suf_tail hr2
    refine vc_code_skip ?_
    refine vq_then ?_
    refine vc_keep [(0, _), (1, _)] ⟨rfl, rfl, trivial⟩ ?_
    refine vc_seq ?_
    refine vc_region ?_
    refine vc_y rfl rfl (y_mv rfl) ?_
    refine vc_y rfl rfl (y_nck rfl) ?_
    refine vc_y rfl rfl (y_fa0 rfl Tryd.underlying83 rfl rfl Tryd.sizeOf81 rfl) ?_
    refine vc_e (e_st st 2 rfl rfl rfl rfl Tryd.sizeOf81 rfl rfl (by first | (right; assumption) | (left; simp)) ?_)
    intro w st; dsimp only [setNth, wr] at st
    refine vc_end ?_
    refine vq_then ?_
    refine vc_keep [(0, _), (1, _)] ⟨rfl, rfl, trivial⟩ ?_
    refine vc_seq ?_
    refine vc_region ?_
    refine vc_y rfl rfl (y_mv rfl) ?_
    refine vc_e (e_bs1 (l := [_]) st rfl rfl rfl rfl Tryd.underlying50 Tryd.sizeOf9 rfl rfl rfl Tryd.zeroValue9 ?_)
    intro b32 w hb32 st
    refine vc_e (e_callp [_, _] rfl rfl Tryd.call81 rfl (pwant_any c [[40]] (by simp) _ _ _ _ rfl r2.tail hr3 _ (KC st.chg) (by exact st.res (i := 2) rfl) hR (st.res (i := 0) rfl) (by exact st.bne 0 2 (by decide) rfl rfl)) (by rintro _ w' ⟨f, hf, rfl, ch⟩ a ha; rw [wantL_one] at hf; exact And.intro ha (Or.inr ⟨_, rfl, f, by rw [hs, hf], rfl, st.chg.trans (ch.mono (by simp))⟩)) ?_)
    rintro _ w ⟨r4, hx, hsfr4, hlnr4, hP1, cw⟩
    rw [wantL_one] at hx
    rw [hx] at hs; dsimp only at hs
    first
    | replace st := St.prs (b := c.pb) st 0 rfl cw (.inl (.head _)) hP1
    | replace st := St.prs (b := c.pb) st 1 rfl cw (.inl (.head _)) hP1
    | replace st := St.prs (b := c.pb) st 2 rfl cw (.inl (.head _)) hP1
    | replace st := St.prs (b := c.pb) st 3 rfl cw (.inl (.head _)) hP1
    | replace st := St.prs (b := c.pb) st 4 rfl cw (.inl (.head _)) hP1
    | replace st := St.prs (b := c.pb) st 5 rfl cw (.inl (.head _)) hP1
    | replace st := St.prs (b := c.pb) st 6 rfl cw (.inl (.head _)) hP1
    | replace st := St.prs (b := c.pb) st 7 rfl cw (.inl (.head _)) hP1
    | replace st := St.prs (b := c.pb) st 8 rfl cw (.inl (.head _)) hP1
    | replace st := St.prs (b := c.pb) st 9 rfl cw (.inl (.head _)) hP1
    dsimp only [setNth] at st
    have hr4 := hsfr4.trans hr3
    refine vc_end ?_
    refine vq_then ?_
    refine vc_keep [(0, _), (1, _)] ⟨rfl, rfl, trivial⟩ ?_
    refine vc_seq ?_
    refine vc_region ?_
    refine vc_y rfl rfl (y_mv rfl) ?_
    refine vc_y rfl rfl (y_mv rfl) ?_
    refine vc_e (e_callp [_] rfl rfl Tryd.call87 rfl (pname_any c hR r4 hr4 _ (KC st.chg) (by exact st.res (i := 2) rfl)) (by rintro _ w' ⟨f, hf, rfl, ch⟩ a ha; exact And.intro ha (Or.inr ⟨_, rfl, f, by rw [hs, hf], rfl, st.chg.trans (ch.mono (by simp))⟩)) ?_)
    rintro _ w ⟨t2, r5, hx, hsf, hln, hP1, cw, rfl⟩
    first
    | replace st := St.prs (b := c.pb) st 0 rfl cw (.inl (.head _)) hP1
    | replace st := St.prs (b := c.pb) st 1 rfl cw (.inl (.head _)) hP1
    | replace st := St.prs (b := c.pb) st 2 rfl cw (.inl (.head _)) hP1
    | replace st := St.prs (b := c.pb) st 3 rfl cw (.inl (.head _)) hP1
    | replace st := St.prs (b := c.pb) st 4 rfl cw (.inl (.head _)) hP1
    | replace st := St.prs (b := c.pb) st 5 rfl cw (.inl (.head _)) hP1
    | replace st := St.prs (b := c.pb) st 6 rfl cw (.inl (.head _)) hP1
    | replace st := St.prs (b := c.pb) st 7 rfl cw (.inl (.head _)) hP1
    | replace st := St.prs (b := c.pb) st 8 rfl cw (.inl (.head _)) hP1
    | replace st := St.prs (b := c.pb) st 9 rfl cw (.inl (.head _)) hP1
    dsimp only [setNth] at st
    rw [hx] at hs; dsimp only at hs
    have hr5 := hsf.trans hr4
    have hsfr5 := hsf
    have hlnr5 := hln
    refine vc_y rfl rfl (y_fld rfl Tryd.underlying53 rfl rfl Tryd.isAgg9 rfl) ?_
    refine vc_y rfl rfl (y_nck rfl) ?_
    refine vc_y rfl rfl ((by exact y_faz (k := 2) rfl Tryd.underlying83 rfl rfl Tryd.sizeOf9 rfl)) ?_
    refine vc_e (e_st st 3 rfl rfl rfl rfl Tryd.sizeOf9 rfl rfl (by first | (right; assumption) | (left; simp)) ?_)
    intro w st; dsimp only [setNth, wr] at st
    refine vc_end ?_
    refine vq_then ?_
    refine vc_keep [(0, _), (1, _)] ⟨rfl, rfl, trivial⟩ ?_
    refine vc_seq ?_
    refine vc_region ?_
    refine vc_y rfl rfl (y_mv rfl) ?_
    refine vc_e (e_bs1 (l := [_]) st rfl rfl rfl rfl Tryd.underlying50 Tryd.sizeOf9 rfl rfl rfl Tryd.zeroValue9 ?_)
    intro b41 w hb41 st
    refine vc_e (e_callp [_, _] rfl rfl Tryd.call81 rfl (pwant_any c [[44]] (by simp) _ _ _ _ rfl r5 hr5 _ (KC st.chg) (by exact st.res (i := 3) rfl) hR (st.res (i := 0) rfl) (by exact st.bne 0 3 (by decide) rfl rfl)) (by rintro _ w' ⟨f, hf, rfl, ch⟩ a ha; rw [wantL_one] at hf; exact And.intro ha (Or.inr ⟨_, rfl, f, by rw [hs, hf], rfl, st.chg.trans (ch.mono (by simp))⟩)) ?_)
    rintro _ w ⟨r8, hx, hsfr8, hlnr8, hP1, cw⟩
    rw [wantL_one] at hx
    rw [hx] at hs; dsimp only at hs
    first
    | replace st := St.prs (b := c.pb) st 0 rfl cw (.inl (.head _)) hP1
    | replace st := St.prs (b := c.pb) st 1 rfl cw (.inl (.head _)) hP1
    | replace st := St.prs (b := c.pb) st 2 rfl cw (.inl (.head _)) hP1
    | replace st := St.prs (b := c.pb) st 3 rfl cw (.inl (.head _)) hP1
    | replace st := St.prs (b := c.pb) st 4 rfl cw (.inl (.head _)) hP1
    | replace st := St.prs (b := c.pb) st 5 rfl cw (.inl (.head _)) hP1
    | replace st := St.prs (b := c.pb) st 6 rfl cw (.inl (.head _)) hP1
    | replace st := St.prs (b := c.pb) st 7 rfl cw (.inl (.head _)) hP1
    | replace st := St.prs (b := c.pb) st 8 rfl cw (.inl (.head _)) hP1
    | replace st := St.prs (b := c.pb) st 9 rfl cw (.inl (.head _)) hP1
    dsimp only [setNth] at st
    have hr8 := hsfr8.trans hr5
    refine vc_end ?_
    refine vq_then ?_
    refine vc_keep [(0, _), (1, _)] ⟨rfl, rfl, trivial⟩ ?_
    refine vc_seq ?_
    refine vc_region ?_
    refine vc_y rfl rfl (y_mv rfl) ?_
    refine vc_y rfl rfl (y_mv rfl) ?_
    refine vc_e (e_callp [_, _] rfl rfl Tryd.call29 rfl (pexpr_any c hR hg r8 hr8 _ (KC st.chg) (by exact st.res (i := 3) rfl)) (by rintro _ w' ⟨f, hf, rfl, ch⟩ a ha; exact And.intro ha (Or.inr ⟨_, rfl, f, by rw [hs, hf], rfl, st.chg.trans (ch.mono (by simp))⟩)) ?_)
    rintro _ w ⟨x, r6, hx, hsfr6, hlnr6, hP1, cw, ox, cx, Sx, rfl, hQ, hN⟩
    have hNSx := hN.le st.chg.size
    first
    | replace st := St.prsT (b := c.pb) st 0 rfl cw (.inl (.head _)) hP1 (holds_ex hQ) hN.2
    | replace st := St.prsT (b := c.pb) st 1 rfl cw (.inl (.head _)) hP1 (holds_ex hQ) hN.2
    | replace st := St.prsT (b := c.pb) st 2 rfl cw (.inl (.head _)) hP1 (holds_ex hQ) hN.2
    | replace st := St.prsT (b := c.pb) st 3 rfl cw (.inl (.head _)) hP1 (holds_ex hQ) hN.2
    | replace st := St.prsT (b := c.pb) st 4 rfl cw (.inl (.head _)) hP1 (holds_ex hQ) hN.2
    | replace st := St.prsT (b := c.pb) st 5 rfl cw (.inl (.head _)) hP1 (holds_ex hQ) hN.2
    | replace st := St.prsT (b := c.pb) st 6 rfl cw (.inl (.head _)) hP1 (holds_ex hQ) hN.2
    | replace st := St.prsT (b := c.pb) st 7 rfl cw (.inl (.head _)) hP1 (holds_ex hQ) hN.2
    | replace st := St.prsT (b := c.pb) st 8 rfl cw (.inl (.head _)) hP1 (holds_ex hQ) hN.2
    | replace st := St.prsT (b := c.pb) st 9 rfl cw (.inl (.head _)) hP1 (holds_ex hQ) hN.2
    dsimp only [setNth] at st
    rw [hx] at hs; dsimp only at hs
    have hr6 := hsfr6.trans hr8
    refine vc_e (e_bs1 (l := [_, _, _, _, _, _]) st rfl rfl rfl rfl Tryd.underlying24 Tryd.sizeOf26 rfl rfl rfl Tryd.zeroValue26 ?_)
    intro b46 w hb46 st
    have hE := ex_one (st.res (i := 0) rfl) (st.res (i := 1) rfl).1
    have hNe : Nw w0.heap.size (b46 :: Sx) := Nw.app (S := [b46]) ⟨by simp, by simpa using hb46⟩ hNSx (fun b hb hb' => st.ne (i := 0) (j := 1) (by decide) rfl rfl b hb hb')
    replace st := st.join (q := .tree (b46 :: Sx) fun w => ExR 26 w (some ⟨b46, 0, none⟩) 1 [x] (b46 :: Sx)) (fun k hk => by
      rcases List.mem_cons.1 hk with rfl | hk
      · exact .inl (.head _)
      · exact .inr hk) (holds_ex hE)
    refine vc_y rfl rfl (y_nck rfl) ?_
    refine vc_y rfl rfl ((by exact y_faz (k := 3) rfl Tryd.underlying83 rfl rfl Tryd.sizeOf24 rfl)) ?_
    refine vc_e (e_st st 5 rfl rfl rfl rfl Tryd.sizeOf24 rfl rfl (by first | (right; assumption) | (left; simp)) ?_)
    intro w st; dsimp only [setNth, wr] at st
    refine vc_end ?_
    refine vq_then ?_
    refine vc_keep [(0, _)] ⟨rfl, trivial⟩ ?_
    refine vc_region ?_
    refine vc_y rfl rfl (y_mv rfl) ?_
    refine vc_e (e_bsn (l := [str [41], str [59]]) (E := 9) st [(0, _), (1, _)] rfl rfl rfl (fun w => by simp [Instr.buildSlice, run_underlying Tryd.underlying50, Tryd.sizeOf9, Tryd.zeroValue9, Instr.fill, newRow, newObj, Sem.run, go_sem]) ?_)
    intro b50 w hb50 st
    refine vc_e (e_callp [_, _] rfl rfl Tryd.call81 rfl (pwant_any c [[41], [59]] (by simp) _ _ _ _ rfl r6 hr6 _ (KC st.chg) (by exact st.res (i := 5) rfl) hR (st.res (i := 0) rfl) (by exact st.bne 0 5 (by decide) rfl rfl)) (by rintro _ w' ⟨f, hf, rfl, ch⟩ a ha; exact And.intro ha (Or.inr ⟨_, rfl, f, by rw [hs, hf], rfl, st.chg.trans (ch.mono (by simp))⟩)) ?_)
    rintro _ w ⟨r7, hx, hsfr7, hlnr7, hP1, cw⟩
    rw [hx] at hs; dsimp only at hs
    first
    | replace st := St.prs (b := c.pb) st 0 rfl cw (.inl (.head _)) hP1
    | replace st := St.prs (b := c.pb) st 1 rfl cw (.inl (.head _)) hP1
    | replace st := St.prs (b := c.pb) st 2 rfl cw (.inl (.head _)) hP1
    | replace st := St.prs (b := c.pb) st 3 rfl cw (.inl (.head _)) hP1
    | replace st := St.prs (b := c.pb) st 4 rfl cw (.inl (.head _)) hP1
    | replace st := St.prs (b := c.pb) st 5 rfl cw (.inl (.head _)) hP1
    | replace st := St.prs (b := c.pb) st 6 rfl cw (.inl (.head _)) hP1
    | replace st := St.prs (b := c.pb) st 7 rfl cw (.inl (.head _)) hP1
    | replace st := St.prs (b := c.pb) st 8 rfl cw (.inl (.head _)) hP1
    | replace st := St.prs (b := c.pb) st 9 rfl cw (.inl (.head _)) hP1
    dsimp only [setNth] at st
    have hr7 := hsfr7.trans hr6
    refine vc_end ?_
    refine vq_ret0 (.inr rfl) Tryd.results108 ?_
    refine .inl ⟨_, rfl, ?_⟩
    exact ⟨_, r7, hs, hsfr7.trans (hsfr6.trans (hsfr8.trans (hsfr5.trans (hsfr4.trans ((List.tail_suffix _).trans (hsfr2.trans hsfr1)))))), by simp at hlnr7 hlnr8 hlnr4 hlnr2; omega, (by exact st.res (i := 5) rfl), st.chg, some ⟨b46, 0, none⟩, none, none, 1, 0, 0, b46 :: Sx, [], [], (by exact st.res (i := 6) rfl), (by exact (st.res (i := 1) rfl).1), smr_nil, smr_nil, by simpa using hNe⟩

end Go.Proofs.YtggnfanphcaamaaDoor

