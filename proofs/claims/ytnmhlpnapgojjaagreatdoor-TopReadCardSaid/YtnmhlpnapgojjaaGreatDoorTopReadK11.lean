/- A part of the proof: contracts of functions and plain laws; each theorem says its own conditions. -/
import Derived.Test.YtnmhlpnapgojjaaGreatDoorTopReadK2
import Derived.Test.YtnmhlpnapgojjaaGreatDoorTopReadK10
import Derived.Test.YtnmhlpnapgojjaaGreatDoorTopReadK0
set_option linter.unusedVariables false
set_option linter.unusedSimpArgs false
namespace Go.Proofs.YtnmhlpnapgojjaaGreatDoor.Pq
open Go.RowKit Sx LexS ParS _root_.Go.Proofs.Tryz
theorem punary_any (c : PCtx) (hR : c.R = 75) (hg : c.g = 0) : ∀ (m d : Nat), d + m = 64 → DRead 108 c d (unaryP c.e m)
 | 0, d, h => punary_of c hR d 0 h (fun k hk => by omega) (fun k hk => by omega)
 | m + 1, d, h => punary_of c hR d (m + 1) h (fun k hk => by
     obtain rfl : k = m := by omega
     exact pexpr_of c hR hg (d + 1) k (punary_any c hR hg k (d + 1) (by omega))) (fun k hk => by
     obtain rfl : k = m := by omega
     exact punary_any c hR hg k (d + 1) (by omega))
/-- an expression that lies in no other -/
theorem pexpr_any (c : PCtx) (hR : c.R = 75) (hg : c.g = 0) (r : List Tok) (hr : r <:+ c.ts) (w : World) (hC : PCok c w) (hP : PAt c r w) : RetP Tryz.prog 49 [.pointer (some ⟨c.pb, 0, none⟩), .int .i64 0] w
    (PRes c r (exprP c.e 64 r) [c.pb] w (HE w)) (PErr c (exprP c.e 64 r) [c.pb] w) := pexpr_of c hR hg 0 64 (punary_any c hR hg 64 0 rfl) r hr w hC hP
/-- a row of one expression -/
def HX (w : World) (x : Ex) (v : Value) (w' : World) : Prop := ∃ oq cq Sq, v = .slice oq 1 cq ∧ ExR 42 w' oq cq [x] Sq ∧ Nw w.heap.size Sq

theorem pcond_any (c : PCtx) (hR : c.R = 75) (hg : c.g = 0) (r : List Tok) (hr : r <:+ c.ts) (w : World) (hC : PCok c w) (hP : PAt c r w) : RetP Tryz.prog 260 [.pointer (some ⟨c.pb, 0, none⟩)] w
    (PRes c r (condP c.e r) [c.pb] w (HX w)) (PErr c (condP c.e r) [c.pb] w) := by
 refine retp_of [_] func260 rfl ntmps260 rfl ?_
 obtain ⟨w0, rfl⟩ : ∃ w0, w0 = w := ⟨_, rfl⟩
 have hP' := hP
 dsimp only [PAt, pcell] at hP
 have st := St.of1 [c.pb] hP
 have h20 := hC.len
 have hl := suf_len hr
 have hs := condP.eq_1 c.e r
 refine sr ?_
 refine ya ?_
 refine et (vk1 0 (sr ?_))
 refine ym ?_
 refine vc_e (e_bs1 (l := [_]) st rfl rfl rfl rfl underlying50 sizeOf9 rfl rfl rfl zeroValue9 ?_)
 intro b5 w hb5 st
 refine vc_e (e_callp [_, _] rfl rfl call145 rfl (pwant_any c [[40]] (by simp) _ _ _ _ rfl r hr _ (hC.k1 st.chg) (by exact st.rs 1) hR (st.res (i := 0) rfl) (by exact st.bne 0 1 (by decide) rfl rfl)) (by rintro _ w' ⟨f, hf, rfl, ch⟩ a ha; rw [wantL_one] at hf; exact And.intro ha (Or.inr ⟨_, rfl, f, by rw [hs, hf], rfl, st.chg.trans ch⟩)) ?_)
 rintro _ w ⟨r1, hx, hsfr1, hlnr1, hP1, cw⟩
 rw [wantL_one] at hx
 rw [hx] at hs; dsimp only at hs
 replace st := St.prs (b := c.pb) st 1 rfl cw (.inl (.head _)) hP1
 dsimp only [setNth] at st
 have hr1 := hsfr1.trans hr
 refine et (vk1 0 (sr ?_))
 refine ym ?_
 refine vc_e (e_callp [_, _] rfl rfl call49 rfl (pexpr_any c hR hg r1 hr1 _ (hC.k1 st.chg) (by exact st.rs 1)) (by rintro _ w' ⟨f, hf, rfl, ch⟩ a ha; exact And.intro ha (Or.inr ⟨_, rfl, f, by rw [hs, hf], rfl, st.chg.trans ch⟩)) ?_)
 rintro _ w ⟨x, r2, hx, hsfr2, hlnr2, hP1, cw, ox, cx, Sx, rfl, hQ, hN⟩
 have hNSx := hN.le st.chg.size
 replace st := St.prsT (b := c.pb) st 1 rfl cw (.inl (.head _)) hP1 (holds_ex hQ) hN.2
 dsimp only [setNth] at st
 rw [hx] at hs; dsimp only at hs
 have hr2 := hsfr2.trans hr1
 refine vc_e (e_al (l := [_, _, _, _, _, _]) st rfl rfl zeroValue42 rfl ?_)
 intro b3 w hb3 st
 refine vc_e (ests st 0 [_, _, _, _, _, _] sizeOf42 ?_)
 intro w st; dsimp only [setNth, wr] at st
 refine et (vk2 0 3 (sr ?_))
 refine ym ?_
 refine vc_e (e_bs1 (l := [_]) st rfl rfl rfl rfl underlying50 sizeOf9 rfl rfl rfl zeroValue9 ?_)
 intro b10 w hb10 st
 refine vc_e (e_callp [_, _] rfl rfl call145 rfl (pwant_any c [[41]] (by simp) _ _ _ _ rfl r2 hr2 _ (hC.k1 st.chg) (by exact st.rs 4) hR (st.res (i := 0) rfl) (by exact st.bne 0 4 (by decide) rfl rfl)) (by rintro _ w' ⟨f, hf, rfl, ch⟩ a ha; rw [wantL_one] at hf; exact And.intro ha (Or.inr ⟨_, rfl, f, by rw [hs, hf], rfl, st.chg.trans ch⟩)) ?_)
 rintro _ w ⟨r3, hx, hsfr3, hlnr3, hP1, cw⟩
 rw [wantL_one] at hx
 rw [hx] at hs; dsimp only at hs
 replace st := St.prs (b := c.pb) st 4 rfl cw (.inl (.head _)) hP1
 dsimp only [setNth] at st
 have hr3 := hsfr3.trans hr2
 refine et (vk1 3 (sr ?_))
 refine yla st 1 [_, _, _, _, _, _] isAgg42 sizeOf42 ?_
 refine vc_e (e_bs1 (l := [_, _, _, _, _, _]) st rfl rfl rfl rfl underlying40 sizeOf42 rfl rfl rfl zeroValue42 ?_)
 intro b13 w hb13 st
 refine ya ?_
 refine et (vk1 2 (vc_ret ?_))
 refine vq_ret1 st (.inl rfl) results260 (.tmp rfl) ?_
 refine .inl ⟨_, rfl, ?_⟩
 exact ⟨x, r3, hs, hsfr3.trans (hsfr2.trans hsfr1), by simp at hlnr3 hlnr1; omega, (by exact st.rs 5), st.chg, some ⟨b13, 0, none⟩, 1, b13 :: Sx, rfl, ex_one (st.res (i := 0) rfl) (by exact (st.res (i := 3) rfl).1), Nw.app (S := [b13]) ⟨by simp, by simpa using hb13⟩ hNSx (fun b hb hb' => by exact st.ne (i := 0) (j := 3) (by decide) rfl rfl b hb hb')⟩
theorem pskip_any (c : PCtx) (hR : c.R = 75) (hg : c.g = 0) (a : Nat) (r : List Tok) (hr : r <:+ c.ts) (w : World) (hC : PCok c w) (hP : PAt c r w) (xb : Nat) (hX : w.heap[xb]? = some (.cells (sm00 (a : Int)).toArray 67 (0, 0))) (hne : c.pb ≠ xb) (hxn : c.n0 ≤ xb) (dv : Value) : RetP Tryz.prog 249 [.pointer (some ⟨c.pb, 0, none⟩), .pointer (some ⟨xb, 0, none⟩), dv] w
    (PRes c r (skipP c.e a r) [c.pb, xb] w (fun s _ w' => StIn 42 67 xb w.heap.size s w')) (PErr c (skipP c.e a r) [c.pb, xb] w) := by
 refine retp_of [_, _, _] func249 rfl ntmps249 rfl ?_
 obtain ⟨w0, rfl⟩ : ∃ w0, w0 = w := ⟨_, rfl⟩
 have hP' := hP
 dsimp only [PAt, pcell] at hP
 have st := St.of2 [c.pb, xb] hP hX hne
 have KC : ∀ {w'}, Chg [c.pb, xb] w0 w' → PCok c w' := fun ch => hC.k2 ch hxn
 have h20 := hC.len
 have hl := suf_len hr
 have hs := skipP.eq_1 c.e a r
 refine sr ?_
 refine ym ?_
 refine ynk ?_
 refine vy (y_fa0 rfl underlying67 rfl rfl sizeOf64 rfl) ?_
 refine vc_e (est st 1 sizeOf64 ?_)
 intro w st; dsimp only [setNth, wr] at st
 refine et (vk1 0 (vc_region ?_))
 refine ym ?_
 refine vc_e (e_bs1 (l := [_]) st rfl rfl rfl rfl underlying50 sizeOf9 rfl rfl rfl zeroValue9 ?_)
 intro b10 w hb10 st
 refine vc_e (e_callp [_, _] rfl rfl call145 rfl (pwant_any c [[59]] (by simp) _ _ _ _ rfl r hr _ (KC st.chg) (by exact st.rs 1) hR (st.res (i := 0) rfl) (by exact st.bne 0 1 (by decide) rfl rfl)) (by rintro _ w' ⟨f, hf, rfl, ch⟩ a ha; rw [wantL_one] at hf; exact And.intro ha (Or.inr ⟨_, rfl, f, by rw [hs, hf], rfl, st.chg.trans (ch.mono (by simp))⟩)) ?_)
 rintro _ w ⟨r1, hx, hsfr1, hlnr1, hP1, cw⟩
 rw [wantL_one] at hx
 rw [hx] at hs; dsimp only at hs
 replace st := St.prs (b := c.pb) st 1 rfl cw (.inl (.head _)) hP1
 dsimp only [setNth] at st
 have hr1 := hsfr1.trans hr
 refine vc_end ?_
 refine vq_ret0 (.inr rfl) results249 ?_
 refine .inl ⟨_, rfl, ?_⟩
 exact ⟨_, r1, hs, hsfr1, by simp at hlnr1; omega, (by exact st.rs 1), st.chg, none, none, none, 0, 0, 0, [], [], [], (by exact st.rs 2), exr_nil, smr_nil, smr_nil, Nw.nil⟩
theorem pprint_any (c : PCtx) (hR : c.R = 75) (hg : c.g = 0) (a : Nat) (r : List Tok) (hr : r <:+ c.ts) (w : World) (hC : PCok c w) (hP : PAt c r w) (xb : Nat) (hX : w.heap[xb]? = some (.cells (sm00 (a : Int)).toArray 67 (0, 0))) (hne : c.pb ≠ xb) (hxn : c.n0 ≤ xb) (dv : Value) : RetP Tryz.prog 248 [.pointer (some ⟨c.pb, 0, none⟩), .pointer (some ⟨xb, 0, none⟩), dv] w
    (PRes c r (printP c.e a r) [c.pb, xb] w (fun s _ w' => StIn 42 67 xb w.heap.size s w')) (PErr c (printP c.e a r) [c.pb, xb] w) := by
 refine retp_of [_, _, _] func248 rfl ntmps248 rfl ?_
 obtain ⟨w0, rfl⟩ : ∃ w0, w0 = w := ⟨_, rfl⟩
 have hP' := hP
 dsimp only [PAt, pcell] at hP
 have st := St.of2 [c.pb, xb] hP hX hne
 have KC : ∀ {w'}, Chg [c.pb, xb] w0 w' → PCok c w' := fun ch => hC.k2 ch hxn
 have h20 := hC.len
 have hl := suf_len hr
 have hs := printP.eq_1 c.e a r
 refine sr ?_
 iterate 3 refine ym ?_
 refine vc_e (e_callp [_, _] rfl rfl call49 rfl (pexpr_any c hR hg r hr _ (KC st.chg) (by exact st.rs 0)) (by rintro _ w' ⟨f, hf, rfl, ch⟩ a ha; exact And.intro ha (Or.inr ⟨_, rfl, f, by rw [hs, hf], rfl, st.chg.trans (ch.mono (by simp))⟩)) ?_)
 rintro _ w ⟨x, r1, hx, hsfr1, hlnr1, hP1, cw, ox, cx, Sx, rfl, hQ, hN⟩
 have hNSx := hN.le st.chg.size
 replace st := St.prsT (b := c.pb) st 0 rfl cw (.inl (.head _)) hP1 (holds_ex hQ) hN.2
 dsimp only [setNth] at st
 rw [hx] at hs; dsimp only at hs
 have hr1 := hsfr1.trans hr
 refine vc_e (e_bs1 (l := [_, _, _, _, _, _]) st rfl rfl rfl rfl underlying40 sizeOf42 rfl rfl rfl zeroValue42 ?_)
 intro b10 w hb10 st
 have hE := ex_one (st.res (i := 0) rfl) (st.res (i := 1) rfl).1
 have hNe : Nw w0.heap.size (b10 :: Sx) := Nw.app (S := [b10]) ⟨by simp, by simpa using hb10⟩ hNSx (fun b hb hb' => st.ne (i := 0) (j := 1) (by decide) rfl rfl b hb hb')
 replace st := st.join (q := .tree (b10 :: Sx) fun w => ExR 42 w (some ⟨b10, 0, none⟩) 1 [x] (b10 :: Sx)) (fun k hk => by
   rcases List.mem_cons.1 hk with rfl | hk
   · exact .inl (.head _)
   · exact .inr hk) (holds_ex hE)
 refine ynk ?_
 refine vy (y_fa0 rfl underlying67 rfl rfl sizeOf64 rfl) ?_
 refine vc_e (est st 2 sizeOf64 ?_)
 intro w st; dsimp only [setNth, wr] at st
 refine ynk ?_
 refine yfz 3 underlying67 sizeOf40 ?_
 refine vc_e (est st 2 sizeOf40 ?_)
 intro w st; dsimp only [setNth, wr] at st
 refine et (vk1 0 (vc_region ?_))
 refine ym ?_
 refine vc_e (e_bs1 (l := [_]) st rfl rfl rfl rfl underlying50 sizeOf9 rfl rfl rfl zeroValue9 ?_)
 intro b16 w hb16 st
 refine vc_e (e_callp [_, _] rfl rfl call145 rfl (pwant_any c [[59]] (by simp) _ _ _ _ rfl r1 hr1 _ (KC st.chg) (by exact st.rs 2) hR (st.res (i := 0) rfl) (by exact st.bne 0 2 (by decide) rfl rfl)) (by rintro _ w' ⟨f, hf, rfl, ch⟩ a ha; rw [wantL_one] at hf; exact And.intro ha (Or.inr ⟨_, rfl, f, by rw [hs, hf], rfl, st.chg.trans (ch.mono (by simp))⟩)) ?_)
 rintro _ w ⟨r2, hx, hsfr2, hlnr2, hP1, cw⟩
 rw [wantL_one] at hx
 rw [hx] at hs; dsimp only at hs
 replace st := St.prs (b := c.pb) st 2 rfl cw (.inl (.head _)) hP1
 dsimp only [setNth] at st
 have hr2 := hsfr2.trans hr1
 refine vc_end ?_
 refine vq_ret0 (.inr rfl) results248 ?_
 refine .inl ⟨_, rfl, ?_⟩
 exact ⟨_, r2, hs, hsfr2.trans hsfr1, by simp at hlnr2; omega, (by exact st.rs 2), st.chg, some ⟨b10, 0, none⟩, none, none, 1, 0, 0, b10 :: Sx, [], [], (by exact st.rs 3), (by exact (st.res (i := 1) rfl).1), smr_nil, smr_nil, by simpa using hNe⟩
set_option maxHeartbeats 1000000 in
theorem passign_any (c : PCtx) (hR : c.R = 75) (hg : c.g = 0) (a : Nat) (r : List Tok) (hr : r <:+ c.ts) (w : World) (hC : PCok c w) (hP : PAt c r w) (xb : Nat) (hX : w.heap[xb]? = some (.cells (sm00 (a : Int)).toArray 67 (0, 0))) (hne : c.pb ≠ xb) (hxn : c.n0 ≤ xb) : RetP Tryz.prog 231 [.pointer (some ⟨c.pb, 0, none⟩), .pointer (some ⟨xb, 0, none⟩)] w
    (PRes c r (assignP c.e a r) [c.pb, xb] w (fun s _ w' => StIn 42 67 xb w.heap.size s w')) (PErr c (assignP c.e a r) [c.pb, xb] w) := by
 refine retp_of [_, _] func231 rfl ntmps231 rfl ?_
 obtain ⟨w0, rfl⟩ : ∃ w0, w0 = w := ⟨_, rfl⟩
 have hP' := hP
 dsimp only [PAt, pcell] at hP
 have st := St.of2 [c.pb, xb] hP hX hne
 have KC : ∀ {w'}, Chg [c.pb, xb] w0 w' → PCok c w' := fun ch => hC.k2 ch hxn
 have h20 := hC.len
 have hl := suf_len hr
 have hs := assignP_eq c.e a r
 refine sr ?_
 iterate 3 refine ym ?_
 refine vc_e (e_callp [_] rfl rfl call146 rfl (pname_any c hR r hr _ (KC st.chg) (by exact st.rs 0)) (by rintro _ w' ⟨f, hf, rfl, ch⟩ a ha; exact And.intro ha (Or.inr ⟨_, rfl, f, by rw [hs, hf], rfl, st.chg.trans (ch.mono (by simp))⟩)) ?_)
 rintro _ w ⟨t, r1, hx, hsf, hln, hP1, cw, rfl⟩
 replace st := St.prs (b := c.pb) st 0 rfl cw (.inl (.head _)) hP1
 dsimp only [setNth] at st
 rw [hx] at hs; dsimp only at hs
 have hr1 := hsf.trans hr
 have hsfr1 := hsf
 have hlnr1 := hln
 refine vy (y_fld rfl underlying118 rfl rfl isAgg9 rfl) ?_
 refine ynk ?_
 refine vy (y_fa0 rfl underlying67 rfl rfl sizeOf64 rfl) ?_
 refine vc_e (est st 1 sizeOf64 ?_)
 intro w st; dsimp only [setNth, wr] at st
 refine ynk ?_
 refine yfz 1 underlying67 sizeOf9 ?_
 refine vc_e (est st 1 sizeOf9 ?_)
 intro w st; dsimp only [setNth, wr] at st
 refine et (vk2 0 1 (sr ?_))
 refine ym ?_
 refine vc_e (e_bs1 (l := [_]) st rfl rfl rfl rfl underlying50 sizeOf9 rfl rfl rfl zeroValue9 ?_)
 intro b14 w hb14 st
 refine vc_e (e_callp [_, _] rfl rfl call145 rfl (pwant_any c [[61]] (by simp) _ _ _ _ rfl r1 hr1 _ (KC st.chg) (by exact st.rs 1) hR (st.res (i := 0) rfl) (by exact st.bne 0 1 (by decide) rfl rfl)) (by rintro _ w' ⟨f, hf, rfl, ch⟩ a ha; rw [wantL_one] at hf; exact And.intro ha (Or.inr ⟨_, rfl, f, by rw [hs, hf], rfl, st.chg.trans (ch.mono (by simp))⟩)) ?_)
 rintro _ w ⟨r2, hx, hsfr2, hlnr2, hP1, cw⟩
 rw [wantL_one] at hx
 rw [hx] at hs; dsimp only at hs
 replace st := St.prs (b := c.pb) st 1 rfl cw (.inl (.head _)) hP1
 dsimp only [setNth] at st
 have hr2 := hsfr2.trans hr1
 refine et (vk2 0 1 (vc_seq (sr ?_)))
 refine ym ?_
 refine vc_e (e_call [_, _] rfl rfl call86 rfl (ptake_any c wSwap r2 hr2 _ (KC st.chg) (by exact st.rs 1)) ?_)
 rintro _ w ⟨rfl, hP1, cw⟩
 replace st := St.prs (b := c.pb) st 1 rfl cw (.inl (.head _)) hP1
 dsimp only [setNth] at st
 refine vy (y_not rfl) ?_
 refine et (vk3 0 1 18 ?_)
 refine vif ?_ ?_
 ·intro hc18
  try simp only [dn] at hc18
  have hF : isT wSwap r2 = false := by simpa using hc18
  simp only [hF, Bool.false_eq_true, if_false] at st hs
  refine sr ?_
  iterate 2 refine ym ?_
  refine vc_e (e_callp [_, _] rfl rfl call49 rfl (pexpr_any c hR hg r2 hr2 _ (KC st.chg) (by exact st.rs 1)) (by rintro _ w' ⟨f, hf, rfl, ch⟩ a ha; exact And.intro ha (Or.inr ⟨_, rfl, f, by rw [hs, hf], rfl, st.chg.trans (ch.mono (by simp))⟩)) ?_)
  rintro _ w ⟨x, r3, hx, hsfr3, hlnr3, hP1, cw, ox, cx, Sx, rfl, hQ, hN⟩
  have hNSx := hN.le st.chg.size
  replace st := St.prsT (b := c.pb) st 1 rfl cw (.inl (.head _)) hP1 (holds_ex hQ) hN.2
  dsimp only [setNth] at st
  rw [hx] at hs; dsimp only at hs
  have hr3 := hsfr3.trans hr2
  refine vc_e (e_bs1 (l := [_, _, _, _, _, _]) st rfl rfl rfl rfl underlying40 sizeOf42 rfl rfl rfl zeroValue42 ?_)
  intro b22 w hb22 st
  have hE := ex_one (st.res (i := 0) rfl) (st.res (i := 1) rfl).1
  have hNe : Nw w0.heap.size (b22 :: Sx) := Nw.app (S := [b22]) ⟨by simp, by simpa using hb22⟩ hNSx (fun b hb hb' => st.ne (i := 0) (j := 1) (by decide) rfl rfl b hb hb')
  replace st := st.join (q := .tree (b22 :: Sx) fun w => ExR 42 w (some ⟨b22, 0, none⟩) 1 [x] (b22 :: Sx)) (fun k hk => by
    rcases List.mem_cons.1 hk with rfl | hk
    · exact .inl (.head _)
    · exact .inr hk) (holds_ex hE)
  refine ynk ?_
  refine yfz 3 underlying67 sizeOf40 ?_
  refine vc_e (est st 3 sizeOf40 ?_)
  intro w st; dsimp only [setNth, wr] at st
  refine et (vk1 0 (sr ?_))
  refine ym ?_
  refine vc_e (e_bs1 (l := [_]) st rfl rfl rfl rfl underlying50 sizeOf9 rfl rfl rfl zeroValue9 ?_)
  intro b26 w hb26 st
  refine vc_e (e_callp [_, _] rfl rfl call145 rfl (pwant_any c [[59]] (by simp) _ _ _ _ rfl r3 hr3 _ (KC st.chg) (by exact st.rs 3) hR (st.res (i := 0) rfl) (by exact st.bne 0 3 (by decide) rfl rfl)) (by rintro _ w' ⟨f, hf, rfl, ch⟩ a ha; rw [wantL_one] at hf; exact And.intro ha (Or.inr ⟨_, rfl, f, by rw [hs, hf], rfl, st.chg.trans (ch.mono (by simp))⟩)) ?_)
  rintro _ w ⟨r4, hx, hsfr4, hlnr4, hP1, cw⟩
  rw [wantL_one] at hx
  rw [hx] at hs; dsimp only at hs
  replace st := St.prs (b := c.pb) st 3 rfl cw (.inl (.head _)) hP1
  dsimp only [setNth] at st
  have hr4 := hsfr4.trans hr3
  refine et (vc_keep [] trivial (vc_ret (vq_then_ret ?_)))
  refine vq_ret0 (.inl rfl) results231 ?_
  refine .inl ⟨_, rfl, ?_⟩
  exact ⟨_, r4, hs, hsfr4.trans (hsfr3.trans (hsfr2.trans hsfr1)), by simp at hlnr4 hlnr2; omega, (by exact st.rs 3), st.chg, some ⟨b22, 0, none⟩, none, none, 1, 0, 0, b22 :: Sx, [], [], (by exact st.rs 4), (by exact (st.res (i := 1) rfl).1), smr_nil, smr_nil, by simpa using hNe⟩
 intro hc18
 try simp only [dn] at hc18
 have hT : isT wSwap r2 = true := by simpa using hc18
 simp only [hT, if_true] at st hs
 have ht := tail_lt (isT_ne hT)
 have hr3 := suf_tail hr2
 refine kt (vk2 0 1 (sr ?_))
 refine ym ?_
 refine ynk ?_
 refine vy (y_fa0 rfl underlying67 rfl rfl sizeOf64 rfl) ?_
 refine vc_e (est st 2 sizeOf64 ?_)
 intro w st; dsimp only [setNth, wr] at st
 refine et (vk2 0 1 (sr ?_))
 refine ym ?_
 refine vc_e (e_bs1 (l := [_]) st rfl rfl rfl rfl underlying50 sizeOf9 rfl rfl rfl zeroValue9 ?_)
 intro b32 w hb32 st
 refine vc_e (e_callp [_, _] rfl rfl call145 rfl (pwant_any c [[40]] (by simp) _ _ _ _ rfl r2.tail hr3 _ (KC st.chg) (by exact st.rs 2) hR (st.res (i := 0) rfl) (by exact st.bne 0 2 (by decide) rfl rfl)) (by rintro _ w' ⟨f, hf, rfl, ch⟩ a ha; rw [wantL_one] at hf; exact And.intro ha (Or.inr ⟨_, rfl, f, by rw [hs, hf], rfl, st.chg.trans (ch.mono (by simp))⟩)) ?_)
 rintro _ w ⟨r4, hx, hsfr4, hlnr4, hP1, cw⟩
 rw [wantL_one] at hx
 rw [hx] at hs; dsimp only at hs
 replace st := St.prs (b := c.pb) st 2 rfl cw (.inl (.head _)) hP1
 dsimp only [setNth] at st
 have hr4 := hsfr4.trans hr3
 refine et (vk2 0 1 (sr ?_))
 iterate 2 refine ym ?_
 refine vc_e (e_callp [_] rfl rfl call146 rfl (pname_any c hR r4 hr4 _ (KC st.chg) (by exact st.rs 2)) (by rintro _ w' ⟨f, hf, rfl, ch⟩ a ha; exact And.intro ha (Or.inr ⟨_, rfl, f, by rw [hs, hf], rfl, st.chg.trans (ch.mono (by simp))⟩)) ?_)
 rintro _ w ⟨t2, r5, hx, hsf, hln, hP1, cw, rfl⟩
 replace st := St.prs (b := c.pb) st 2 rfl cw (.inl (.head _)) hP1
 dsimp only [setNth] at st
 rw [hx] at hs; dsimp only at hs
 have hr5 := hsf.trans hr4
 have hsfr5 := hsf
 have hlnr5 := hln
 refine vy (y_fld rfl underlying118 rfl rfl isAgg9 rfl) ?_
 refine ynk ?_
 refine yfz 2 underlying67 sizeOf9 ?_
 refine vc_e (est st 3 sizeOf9 ?_)
 intro w st; dsimp only [setNth, wr] at st
 refine et (vk2 0 1 (sr ?_))
 refine ym ?_
 refine vc_e (e_bs1 (l := [_]) st rfl rfl rfl rfl underlying50 sizeOf9 rfl rfl rfl zeroValue9 ?_)
 intro b41 w hb41 st
 refine vc_e (e_callp [_, _] rfl rfl call145 rfl (pwant_any c [[44]] (by simp) _ _ _ _ rfl r5 hr5 _ (KC st.chg) (by exact st.rs 3) hR (st.res (i := 0) rfl) (by exact st.bne 0 3 (by decide) rfl rfl)) (by rintro _ w' ⟨f, hf, rfl, ch⟩ a ha; rw [wantL_one] at hf; exact And.intro ha (Or.inr ⟨_, rfl, f, by rw [hs, hf], rfl, st.chg.trans (ch.mono (by simp))⟩)) ?_)
 rintro _ w ⟨r8, hx, hsfr8, hlnr8, hP1, cw⟩
 rw [wantL_one] at hx
 rw [hx] at hs; dsimp only at hs
 replace st := St.prs (b := c.pb) st 3 rfl cw (.inl (.head _)) hP1
 dsimp only [setNth] at st
 have hr8 := hsfr8.trans hr5
 refine et (vk2 0 1 (sr ?_))
 iterate 2 refine ym ?_
 refine vc_e (e_callp [_, _] rfl rfl call49 rfl (pexpr_any c hR hg r8 hr8 _ (KC st.chg) (by exact st.rs 3)) (by rintro _ w' ⟨f, hf, rfl, ch⟩ a ha; exact And.intro ha (Or.inr ⟨_, rfl, f, by rw [hs, hf], rfl, st.chg.trans (ch.mono (by simp))⟩)) ?_)
 rintro _ w ⟨x, r6, hx, hsfr6, hlnr6, hP1, cw, ox, cx, Sx, rfl, hQ, hN⟩
 have hNSx := hN.le st.chg.size
 replace st := St.prsT (b := c.pb) st 3 rfl cw (.inl (.head _)) hP1 (holds_ex hQ) hN.2
 dsimp only [setNth] at st
 rw [hx] at hs; dsimp only at hs
 have hr6 := hsfr6.trans hr8
 refine vc_e (e_bs1 (l := [_, _, _, _, _, _]) st rfl rfl rfl rfl underlying40 sizeOf42 rfl rfl rfl zeroValue42 ?_)
 intro b46 w hb46 st
 have hE := ex_one (st.res (i := 0) rfl) (st.res (i := 1) rfl).1
 have hNe : Nw w0.heap.size (b46 :: Sx) := Nw.app (S := [b46]) ⟨by simp, by simpa using hb46⟩ hNSx (fun b hb hb' => st.ne (i := 0) (j := 1) (by decide) rfl rfl b hb hb')
 replace st := st.join (q := .tree (b46 :: Sx) fun w => ExR 42 w (some ⟨b46, 0, none⟩) 1 [x] (b46 :: Sx)) (fun k hk => by
   rcases List.mem_cons.1 hk with rfl | hk
   · exact .inl (.head _)
   · exact .inr hk) (holds_ex hE)
 refine ynk ?_
 refine yfz 3 underlying67 sizeOf40 ?_
 refine vc_e (est st 5 sizeOf40 ?_)
 intro w st; dsimp only [setNth, wr] at st
 refine et (vk1 0 (vc_region ?_))
 refine ym ?_
 refine vc_e (e_bsn (l := [str [41], str [59]]) (E := 9) st [(0, _), (1, _)] rfl rfl rfl (fun w => by simp [Instr.buildSlice, run_underlying underlying50, sizeOf9, zeroValue9, Instr.fill, newRow, newObj, Sem.run, go_sem]) ?_)
 intro b50 w hb50 st
 refine vc_e (e_callp [_, _] rfl rfl call145 rfl (pwant_any c [[41], [59]] (by simp) _ _ _ _ rfl r6 hr6 _ (KC st.chg) (by exact st.rs 5) hR (st.res (i := 0) rfl) (by exact st.bne 0 5 (by decide) rfl rfl)) (by rintro _ w' ⟨f, hf, rfl, ch⟩ a ha; exact And.intro ha (Or.inr ⟨_, rfl, f, by rw [hs, hf], rfl, st.chg.trans (ch.mono (by simp))⟩)) ?_)
 rintro _ w ⟨r7, hx, hsfr7, hlnr7, hP1, cw⟩
 rw [hx] at hs; dsimp only at hs
 replace st := St.prs (b := c.pb) st 5 rfl cw (.inl (.head _)) hP1
 dsimp only [setNth] at st
 have hr7 := hsfr7.trans hr6
 refine vc_end ?_
 refine vq_ret0 (.inr rfl) results231 ?_
 refine .inl ⟨_, rfl, ?_⟩
 exact ⟨_, r7, hs, hsfr7.trans (hsfr6.trans (hsfr8.trans (hsfr5.trans (hsfr4.trans ((List.tail_suffix _).trans (hsfr2.trans hsfr1)))))), by simp at hlnr7 hlnr8 hlnr4 hlnr2; omega, (by exact st.rs 5), st.chg, some ⟨b46, 0, none⟩, none, none, 1, 0, 0, b46 :: Sx, [], [], (by exact st.rs 6), (by exact (st.res (i := 1) rfl).1), smr_nil, smr_nil, by simpa using hNe⟩
end Go.Proofs.YtnmhlpnapgojjaaGreatDoor.Pq


namespace Go.Proofs.YtnmhlpnapgojjaaGreatDoor.Pq
open Go.RowKit Sx LexS ParS _root_.Go.Proofs.Tryz
theorem Tryz.info67 : Tryz.prog.info? 67 = some Tryz.t67 := by kernel_rfl
/-- a row of statements -/
def HB (w : World) (l : List Sm) (v : Value) (w' : World) : Prop := ∃ oq cq Sq, v = .slice oq l.length cq ∧ SmR 42 67 w' oq cq l Sq ∧ Nw w.heap.size Sq
/-- a statement's value -/
def HS (w : World) (s : Sm) (v : Value) (w' : World) : Prop := ∃ oe ob ol ce cb cl Sq, v = .agg (smC s oe ob ol ce cb cl).toArray ∧ SmS 42 67 w' s (smC s oe ob ol ce cb cl) Sq ∧ Nw w.heap.size Sq
/-- a reader of blocks (of statements) that lie so deep -/
def BRead (fo : FuncId) (c : PCtx) (d : Nat) (F : List Tok → PR (List Sm)) : Prop := ∀ (r : List Tok) (hr : r <:+ c.ts) (w : World) (hC : PCok c w) (hP : PAt c r w), RetP Tryz.prog fo [.pointer (some ⟨c.pb, 0, none⟩), .int .i64 (d : Int)] w
    (PRes c r (F r) [c.pb] w (HB w)) (PErr c (F r) [c.pb] w)
def SRead (c : PCtx) (d : Nat) (F : List Tok → PR Sm) : Prop := ∀ (r : List Tok) (hr : r <:+ c.ts) (w : World) (hC : PCok c w) (hP : PAt c r w), RetP Tryz.prog 201 [.pointer (some ⟨c.pb, 0, none⟩), .int .i64 (d : Int)] w
    (PRes c r (F r) [c.pb] w (HS w)) (PErr c (F r) [c.pb] w)
theorem holds_sms {w : World} {base : Nat} {s : Sm} {l : List Value} {S : List Nat} (h : SmS 42 67 w s l S) : (Res.tree S fun w => SmS 42 67 w s l S).holds base w := holds_of h h.lt (fun a b h hk => h.kept hk)
theorem holds_smss {w : World} {base : Nat} {s : List Sm} {l : List Value} {S : List Nat} (h : SmSs 42 67 w s l S) : (Res.tree S fun w => SmSs 42 67 w s l S).holds base w := holds_of h h.lt (fun a b h hk => h.kept hk)
theorem blkP_want {e m : Nat} {r : List Tok} (h : isT [123] r = true → m ≠ 0) : blkP e m r = match want e [123] r with
  | .error f => .error f
  | .ok r1 => restW (stmtP e (m - 1)) (r1.length + 1) r1 := by
 cases m with
 | zero =>
  have hF : isT [123] r = false := by cases hc : isT [123] r with | false => rfl | true => exact absurd rfl (h hc)
  rw [want_neg hF]
  simp only [blkP, hF, Bool.false_eq_true, if_false]; rfl
 | succ m => rfl
set_option maxHeartbeats 1000000 in
theorem prest_of (c : PCtx) (hR : c.R = 75) (d m n : Nat) (hS : SRead c d (stmtP c.e m)) (r : List Tok) (hn : r.length < n) (hr : r <:+ c.ts) (w : World) (hC : PCok c w) (hP : PAt c r w) : RetP Tryz.prog 147 [.pointer (some ⟨c.pb, 0, none⟩), .int .i64 (d : Int)] w
    (PRes c r (restW (stmtP c.e m) n r) [c.pb] w (HB w)) (PErr c (restW (stmtP c.e m) n r) [c.pb] w) := by
 refine retp_of [_, _] func147 rfl ntmps147 rfl ?_
 obtain ⟨w0, rfl⟩ : ∃ w0, w0 = w := ⟨_, rfl⟩
 have hP' := hP
 dsimp only [PAt, pcell] at hP
 have st := St.of1 [c.pb] hP
 have h20 := hC.len
 have hl := suf_len hr
 have hs := contS_nil (stmtP c.e m) n r
 replace st := St.pushR (r := .tree [] (fun w => SmSs 42 67 w [] [] [])) st (Chg.refl _ _) (holds_smss (by simp [SmSs])) (by simp [Res.at?])
 replace st := st.ownNil 67 7
 refine sr ?_
 refine ya ?_
 refine et (vk2 0 1 (sr ?_))
 refine ya ?_
 refine et (vk3 0 1 5 (vc_seq (vc_block ?_)))
 refine vc_loop (w0 := w0) (M := [c.pb]) (fun (y : List Sm × List Tok × Nat × Option Addr × Nat × List Value × List Nat) => [(0, .pointer (some ⟨c.pb, 0, none⟩)), (1, .int .i64 (d : Int)), (5, .slice y.2.2.2.1 y.1.length y.2.2.2.2.1)]) (fun y => [.own (.slice y.2.2.2.1 y.1.length y.2.2.2.2.1) 67 7 y.1.length y.2.2.2.2.2.1, .tree y.2.2.2.2.2.2 (fun w => SmSs 42 67 w y.1 y.2.2.2.2.2.1 y.2.2.2.2.2.2), .blk c.pb (.cells (pcell c y.2.1).toArray c.T (0, 0))]) (fun y _ => y.2.1 <:+ r ∧ y.2.1.length + y.1.length ≤ r.length ∧ y.2.1.length < y.2.2.1 ∧ Nw w0.heap.size y.2.2.2.2.2.2 ∧ restW (stmtP c.e m) n r = contS (stmtP c.e m) y.2.2.1 y.1 y.2.1) (fun y => y.2.1.length) ([], r, n, none, 0, [], []) ⟨rfl, rfl, rfl, trivial⟩ st ⟨List.suffix_refl _, by simp, hn, Nw.nil, hs⟩ ?_
 clear st hs
 rintro ⟨acc, r1, k, oq, cq, xs, Sq⟩ w ⟨hsf1, hl1, hk1, hSq, hs⟩ st
 dsimp only at hsf1 hl1 hk1 hSq hs st
 have hr1 := hsf1.trans hr
 obtain ⟨k, rfl⟩ : ∃ j, k = j + 1 := ⟨k - 1, by omega⟩
 refine vc_seq (sr ?_)
 refine ym ?_
 refine vc_e (e_call [_, _] rfl rfl call86 rfl (ptake_any c [125] r1 hr1 _ (hC.k1 st.chg) (by exact st.rs 2)) ?_)
 rintro _ w ⟨rfl, hP1, cw⟩
 replace st := St.prs (b := c.pb) st 2 rfl cw (.inl (.head _)) hP1
 dsimp only [setNth] at st
 refine vy (y_not rfl) ?_
 refine et (vk4 0 1 5 8 ?_)
 refine vif ?_ ?_
 ·intro hc8
  try simp only [dn] at hc8
  have hF : isT [125] r1 = false := by simpa using hc8
  simp only [hF, Bool.false_eq_true, if_false] at st
  rw [contS_step hF] at hs
  refine kt (vk3 0 1 5 (vc_block (vc_region ?_)))
  iterate 3 refine ym ?_
  refine vc_e (e_callp [_, _] rfl rfl call201 rfl (hS r1 hr1 _ (hC.k1 st.chg) (by exact st.rs 2)) (by rintro _ w' ⟨f, hf, rfl, ch⟩ a ha; exact And.intro ha (Or.inr ⟨_, rfl, f, by rw [hs, hf], rfl, st.chg.trans ch⟩)) ?_)
  rintro _ w ⟨s, r2, hx, hsfr2, hlnr2, hP1, cw, oe, ob, ol, ce, cb, cl, Ss, rfl, hQ, hN⟩
  have hNSs := hN.le st.chg.size
  replace st := St.prsT (b := c.pb) st 2 rfl cw (.inl (.head _)) hP1 (holds_sms hQ) hN.2
  dsimp only [setNth] at st
  rw [hx] at hs; dsimp only at hs
  have h41 := hr.length_le
  refine vc_e (e_bs1 (l := [_, _, _, _, _, _, _]) st rfl rfl rfl rfl underlying65 sizeOf67 rfl rfl rfl zeroValue67 ?_)
  intro b13 w hb13 st
  refine vc_e (e_app (bytes := 120) st 2 0 rfl rfl rfl rfl rfl rfl underlying65 Tryz.info67 rfl rfl rfl rfl rfl (by simp) rfl rfl (by unfold maxLen; omega) (by omega) ?_)
  intro oaQ capQ w st; dsimp only [setNth] at st
  have hS2 := SmSs.snoc (st.res (i := 3) rfl).1 (st.res (i := 1) rfl).1
  have hN2 := hSq.app hNSs (st.ne (i := 3) (j := 1) (by decide) rfl rfl)
  replace st := ((st.pick [3, 1, 2, 4] rfl (by decide)).join (q := .tree (Sq ++ Ss) fun w => SmSs 42 67 w (acc ++ [s]) (xs ++ smC s oe ob ol ce cb cl) (Sq ++ Ss)) (fun k hk => List.mem_append.1 hk) (holds_smss hS2)).pick [1, 0, 2] rfl (by decide)
  refine ya ?_
  refine vc_end (vq_block ?_)
  refine vq_again (acc ++ [s], r2, k, oaQ, capQ, xs ++ smC s oe ob ol ce cb cl, Sq ++ Ss)  (by refine ⟨rfl, rfl, ?_, trivial⟩; simp [find, put]) (by simpa using st) ?_ ?_
  ·exact ⟨hsfr2.trans hsf1, by simp; omega, by dsimp only; omega, hN2, hs⟩
  ·dsimp only; omega
 intro hc8
 try simp only [dn] at hc8
 have hT : isT [125] r1 = true := by simpa using hc8
 simp only [hT, if_true] at st
 rw [contS_end hT] at hs
 have ht := tail_lt (isT_ne hT)
 refine vc_exit (vq_then_exit (vq_then_exit (vq_block_exit (vq_then (vk1 5 (sr ?_))))))
 refine ym ?_
 refine ya ?_
 refine et (vk1 4 (vc_ret ?_))
 refine vq_ret1 st (.inl rfl) results147 (.tmp rfl) ?_
 refine .inl ⟨_, rfl, ?_⟩
 have hown := st.ownNw (i := 0) rfl
 exact ⟨acc, _, hs, (List.tail_suffix _).trans hsf1, by omega, (by exact st.rs 2), st.chg, oq, cq, obk oq ++ Sq, rfl, ⟨xs, Sq, hown.1, rfl, (st.res (i := 1) rfl).1⟩, hown.2.app hSq (fun b hb => st.ne (i := 0) (j := 1) (by decide) rfl rfl b (by simpa [Res.at?, obk_own] using hb))⟩
theorem pblock_of (c : PCtx) (hR : c.R = 75) (d m : Nat) (hd : d + m = 64) (hB : ∀ k, m = k + 1 → SRead c (d + 1) (stmtP c.e k)) : BRead 261 c d (blkP c.e m) := by
 intro r hr w hC hP
 refine retp_of [_, _] func261 rfl ntmps261 rfl ?_
 obtain ⟨w0, rfl⟩ : ∃ w0, w0 = w := ⟨_, rfl⟩
 have hP' := hP
 dsimp only [PAt, pcell] at hP
 have st := St.of1 [c.pb] hP
 have h20 := hC.len
 have hl := suf_len hr
 refine sr ?_
 refine ya ?_
 refine et (vk2 0 1 (vc_seq (sr ?_)))
 refine ym ?_
 refine vc_e (e_call [_, _] rfl rfl call90 rfl (pis_any c [123] r hr _ (hC.k1 st.chg) (by exact st.rs 0)) ?_)
 rintro _ w ⟨rfl, cw⟩
 replace st := st.call0 cw
 refine vmb ?_ ?_
 ·intro hg7
  try simp only [dn] at hg7
  refine ym ?_
  refine vy (y_eqi rfl rfl) ?_
  refine ypt ?_
  refine et (vk3 0 1 10 ?_)
  refine vif ?_ ?_
  ·intro hc10
   try simp only [dn] at hc10
   have hd64 : d = 64 := by omega
   obtain rfl : m = 0 := by omega
   have hs : blkP c.e 0 r = fail c.e 3 r := by simp only [blkP]; rw [if_pos hg7]
   refine vc_region ?_
   refine ym ?_
   refine vc_e (e_callp [_, _] rfl rfl call50 rfl (pfail_any c 3 r hr _ (hC.k1 st.chg) (by exact st.rs 0) hR) (by rintro _ w' ⟨rfl, ch⟩ a ha; exact And.intro ha (Or.inr ⟨_, rfl, (atT c.e r, 3), by rw [hs]; rfl, rfl, st.chg.trans ch.of_nil⟩)) (fun _ _ h => h.elim))
  intro hc10
  try simp only [dn] at hc10
  have hm0 : isT [123] r = true → m ≠ 0 := fun _ => by omega
  have hs := blkP_want (e := c.e) hm0
  refine kt (vk2 0 1 (sr ?_))
  refine ym ?_
  refine vc_e (e_bs1 (l := [_]) st rfl rfl rfl rfl underlying50 sizeOf9 rfl rfl rfl zeroValue9 ?_)
  intro b14 w hb14 st
  refine vc_e (e_callp [_, _] rfl rfl call145 rfl (pwant_any c [[123]] (by simp) _ _ _ _ rfl r hr _ (hC.k1 st.chg) (by exact st.rs 1) hR (st.res (i := 0) rfl) (by exact st.bne 0 1 (by decide) rfl rfl)) (by rintro _ w' ⟨f, hf, rfl, ch⟩ a ha; rw [wantL_one] at hf; exact And.intro ha (Or.inr ⟨_, rfl, f, by rw [hs, hf], rfl, st.chg.trans ch⟩)) ?_)
  rintro _ w ⟨r1, hx, hsfr1, hlnr1, hP1, cw⟩
  rw [wantL_one] at hx
  rw [hx] at hs; dsimp only at hs
  replace st := St.prs (b := c.pb) st 1 rfl cw (.inl (.head _)) hP1
  dsimp only [setNth] at st
  have hr1 := hsfr1.trans hr
  obtain ⟨k, rfl⟩ : ∃ k, m = k + 1 := ⟨m - 1, by have := hm0 (want_ok (by assumption)).1; omega⟩
  rw [Nat.add_sub_cancel] at hs
  refine et (vk2 0 1 (sr ?_))
  iterate 2 refine ym ?_
  refine vy (y_add rfl rfl (by omega : _ = ((d + 1 : Nat) : Int)) (by omega) (by omega)) ?_
  refine vc_e (e_callp [_, _] rfl rfl call147 rfl (prest_of c hR (d + 1) k (r1.length + 1) (hB k rfl) r1 (Nat.lt_succ_self _) hr1 _ (hC.k1 st.chg) (by exact st.rs 1)) (by rintro _ w' ⟨f, hf, rfl, ch⟩ a ha; exact And.intro ha (Or.inr ⟨_, rfl, f, by rw [hs, hf], rfl, st.chg.trans ch⟩)) ?_)
  rintro _ w ⟨l, r2, hx, hsfr2, hlnr2, hP1, cw, ob, cb, Sb, rfl, hQ, hN⟩
  have hNSb := hN.le st.chg.size
  replace st := St.prsT (b := c.pb) st 1 rfl cw (.inl (.head _)) hP1 (holds_sm hQ) hN.2
  dsimp only [setNth] at st
  rw [hx] at hs
  refine ya ?_
  refine et (vk1 4 (vc_ret ?_))
  refine vq_ret1 st (.inl rfl) results261 (.tmp rfl) ?_
  refine .inl ⟨_, rfl, ?_⟩
  exact ⟨l, r2, hs, hsfr2.trans hsfr1, by simp at hlnr1; omega, (by exact st.rs 2), st.chg, ob, cb, Sb, rfl, (st.res (i := 0) rfl).1, hNSb⟩
 intro hg7
 try simp only [dn] at hg7
 have hm0 : isT [123] r = true → m ≠ 0 := fun h => by rw [hg7] at h; cases h
 have hs := blkP_want (e := c.e) hm0
 iterate 2 refine vsk ?_
 refine ypf ?_
 refine et (vk3 0 1 10 ?_)
 refine vc_iff rfl ?_
 refine kt (vk2 0 1 (sr ?_))
 refine ym ?_
 refine vc_e (e_bs1 (l := [_]) st rfl rfl rfl rfl underlying50 sizeOf9 rfl rfl rfl zeroValue9 ?_)
 intro b14 w hb14 st
 refine vc_e (e_callp [_, _] rfl rfl call145 rfl (pwant_any c [[123]] (by simp) _ _ _ _ rfl r hr _ (hC.k1 st.chg) (by exact st.rs 1) hR (st.res (i := 0) rfl) (by exact st.bne 0 1 (by decide) rfl rfl)) (by rintro _ w' ⟨f, hf, rfl, ch⟩ a ha; rw [wantL_one] at hf; exact And.intro ha (Or.inr ⟨_, rfl, f, by rw [hs, hf], rfl, st.chg.trans ch⟩)) ?_)
 rintro _ w ⟨r1, hx, hsfr1, hlnr1, hP1, cw⟩
 rw [wantL_one] at hx
 rw [hx] at hs; dsimp only at hs
 replace st := St.prs (b := c.pb) st 1 rfl cw (.inl (.head _)) hP1
 dsimp only [setNth] at st
 have hr1 := hsfr1.trans hr
 obtain ⟨k, rfl⟩ : ∃ k, m = k + 1 := ⟨m - 1, by have := hm0 (want_ok (by assumption)).1; omega⟩
 rw [Nat.add_sub_cancel] at hs
 refine et (vk2 0 1 (sr ?_))
 iterate 2 refine ym ?_
 refine vy (y_add rfl rfl (by omega : _ = ((d + 1 : Nat) : Int)) (by omega) (by omega)) ?_
 refine vc_e (e_callp [_, _] rfl rfl call147 rfl (prest_of c hR (d + 1) k (r1.length + 1) (hB k rfl) r1 (Nat.lt_succ_self _) hr1 _ (hC.k1 st.chg) (by exact st.rs 1)) (by rintro _ w' ⟨f, hf, rfl, ch⟩ a ha; exact And.intro ha (Or.inr ⟨_, rfl, f, by rw [hs, hf], rfl, st.chg.trans ch⟩)) ?_)
 rintro _ w ⟨l, r2, hx, hsfr2, hlnr2, hP1, cw, ob, cb, Sb, rfl, hQ, hN⟩
 have hNSb := hN.le st.chg.size
 replace st := St.prsT (b := c.pb) st 1 rfl cw (.inl (.head _)) hP1 (holds_sm hQ) hN.2
 dsimp only [setNth] at st
 rw [hx] at hs
 refine ya ?_
 refine et (vk1 4 (vc_ret ?_))
 refine vq_ret1 st (.inl rfl) results261 (.tmp rfl) ?_
 refine .inl ⟨_, rfl, ?_⟩
 exact ⟨l, r2, hs, hsfr2.trans hsfr1, by simp at hlnr1; omega, (by exact st.rs 2), st.chg, ob, cb, Sb, rfl, (st.res (i := 0) rfl).1, hNSb⟩
set_option maxHeartbeats 1000000 in
theorem pchoice_of (c : PCtx) (hR : c.R = 75) (hg : c.g = 0) (d : Nat) (blk : List Tok → PR (List Sm)) (hB : BRead 261 c d blk) (a : Nat) (r : List Tok) (hr : r <:+ c.ts) (w : World) (hC : PCok c w) (hP : PAt c r w) (xb : Nat) (hX : w.heap[xb]? = some (.cells (sm00 (a : Int)).toArray 67 (0, 0))) (hne : c.pb ≠ xb) (hxn : c.n0 ≤ xb) : RetP Tryz.prog 245 [.pointer (some ⟨c.pb, 0, none⟩), .pointer (some ⟨xb, 0, none⟩), .int .i64 (d : Int)] w
    (PRes c r (choiceP c.e blk a r) [c.pb, xb] w (fun s _ w' => StIn 42 67 xb w.heap.size s w')) (PErr c (choiceP c.e blk a r) [c.pb, xb] w) := by
 refine retp_of [_, _, _] func245 rfl ntmps245 rfl ?_
 obtain ⟨w0, rfl⟩ : ∃ w0, w0 = w := ⟨_, rfl⟩
 have hP' := hP
 dsimp only [PAt, pcell] at hP
 have st := St.of2 [c.pb, xb] hP hX hne
 have KC : ∀ {w'}, Chg [c.pb, xb] w0 w' → PCok c w' := fun ch => hC.k2 ch hxn
 have h20 := hC.len
 have hl := suf_len hr
 have hs := choiceP.eq_1 c.e blk a r
 refine sr ?_
 iterate 3 refine ym ?_
 refine vc_e (e_callp [_] rfl rfl call260 rfl (pcond_any c hR hg r hr _ (KC st.chg) (by exact st.rs 0)) (by rintro _ w' ⟨f, hf, rfl, ch⟩ a ha; exact And.intro ha (Or.inr ⟨_, rfl, f, by rw [hs, hf], rfl, st.chg.trans (ch.mono (by simp))⟩)) ?_)
 rintro _ w ⟨x, r1, hx, hsfr1, hlnr1, hP1, cw, ox, cx, Sx, rfl, hQ, hN⟩
 have hNSx := hN.le st.chg.size
 replace st := St.prsT (b := c.pb) st 0 rfl cw (.inl (.head _)) hP1 (holds_ex hQ) hN.2
 dsimp only [setNth] at st
 rw [hx] at hs; dsimp only at hs
 have hr1 := hsfr1.trans hr
 refine ynk ?_
 refine vy (y_fa0 rfl underlying67 rfl rfl sizeOf64 rfl) ?_
 refine vc_e (est st 2 sizeOf64 ?_)
 intro w st; dsimp only [setNth, wr] at st
 refine ynk ?_
 refine yfz 3 underlying67 sizeOf40 ?_
 refine vc_e (est st 2 sizeOf40 ?_)
 intro w st; dsimp only [setNth, wr] at st
 refine et (vk3 0 1 2 (sr ?_))
 iterate 3 refine ym ?_
 refine vc_e (e_callp [_, _] rfl rfl call261 rfl (hB r1 hr1 _ (KC st.chg) (by exact st.rs 1)) (by rintro _ w' ⟨f, hf, rfl, ch⟩ a ha; exact And.intro ha (Or.inr ⟨_, rfl, f, by rw [hs, hf], rfl, st.chg.trans (ch.mono (by simp))⟩)) ?_)
 rintro _ w ⟨l1, r2, hx, hsfr2, hlnr2, hP1, cw, ob, cb, Sb, rfl, hQ, hN⟩
 have hNSb := hN.le st.chg.size
 replace st := St.prsT (b := c.pb) st 1 rfl cw (.inl (.head _)) hP1 (holds_sm hQ) hN.2
 dsimp only [setNth] at st
 rw [hx] at hs; dsimp only at hs
 have hr2 := hsfr2.trans hr1
 refine ynk ?_
 refine yfz 4 underlying67 sizeOf65 ?_
 refine vc_e (est st 3 sizeOf65 ?_)
 intro w st; dsimp only [setNth, wr] at st
 refine et (vk3 0 1 2 (sr ?_))
 refine ym ?_
 refine vc_e (e_call [_, _] rfl rfl call86 rfl (ptake_any c wElse r2 hr2 _ (KC st.chg) (by exact st.rs 2)) ?_)
 rintro _ w ⟨rfl, hP1, cw⟩
 replace st := St.prs (b := c.pb) st 2 rfl cw (.inl (.head _)) hP1
 dsimp only [setNth] at st
 refine et (vk4 0 1 2 21 ?_)
 refine vif ?_ ?_
 ·intro hc21
  try simp only [dn] at hc21
  simp only [hc21, if_true] at st hs
  have ht := tail_lt (isT_ne hc21)
  have hr2t := suf_tail hr2
  refine vc_region ?_
  iterate 3 refine ym ?_
  refine vc_e (e_callp [_, _] rfl rfl call261 rfl (hB r2.tail hr2t _ (KC st.chg) (by exact st.rs 2)) (by rintro _ w' ⟨f, hf, rfl, ch⟩ a ha; exact And.intro ha (Or.inr ⟨_, rfl, f, by rw [hs, hf], rfl, st.chg.trans (ch.mono (by simp))⟩)) ?_)
  rintro _ w ⟨l2, r3, hx, hsfr3, hlnr3, hP1, cw, ol, cl, Sl, rfl, hQ, hN⟩
  have hNSl := hN.le st.chg.size
  replace st := St.prsT (b := c.pb) st 2 rfl cw (.inl (.head _)) hP1 (holds_sm hQ) hN.2
  dsimp only [setNth] at st
  rw [hx] at hs; dsimp only at hs
  have hr3 := hsfr3.trans hr2t
  refine ynk ?_
  refine yfz 5 underlying67 sizeOf65 ?_
  refine vc_e (est st 4 sizeOf65 ?_)
  intro w st; dsimp only [setNth, wr] at st
  refine vc_end ?_
  refine vq_ret0 (.inr rfl) results245 ?_
  refine .inl ⟨_, rfl, ?_⟩
  exact ⟨_, r3, hs, hsfr3.trans ((List.tail_suffix _).trans (hsfr2.trans hsfr1)), by omega, (by exact st.rs 3), st.chg, ox, ob, ol, cx, cb, cl, Sx, Sb, Sl, (by exact st.rs 4), (st.res (i := 2) rfl).1, (st.res (i := 1) rfl).1, (st.res (i := 0) rfl).1, hNSx.app (hNSb.app hNSl (st.ne (i := 1) (j := 0) (by decide) rfl rfl)) (fun b hb hb' => (List.mem_append.1 hb').elim (st.ne (i := 2) (j := 1) (by decide) rfl rfl b hb) (st.ne (i := 2) (j := 0) (by decide) rfl rfl b hb))⟩
 intro hc21
 try simp only [dn] at hc21
 simp only [hc21, Bool.false_eq_true, if_false] at st hs
 refine vc_code_skip ?_
 refine vq_ret0 (.inr rfl) results245 ?_
 refine .inl ⟨_, rfl, ?_⟩
 exact ⟨_, r2, hs, hsfr2.trans hsfr1, by omega, (by exact st.rs 2), st.chg, ox, ob, none, cx, cb, 0, Sx, Sb, [], (by exact st.rs 3), (st.res (i := 1) rfl).1, (st.res (i := 0) rfl).1, smr_nil, by rw [List.append_nil]; exact hNSx.app hNSb (st.ne (i := 1) (j := 0) (by decide) rfl rfl)⟩
theorem ploop_of (c : PCtx) (hR : c.R = 75) (hg : c.g = 0) (d : Nat) (blk : List Tok → PR (List Sm)) (hB : BRead 261 c d blk) (a : Nat) (r : List Tok) (hr : r <:+ c.ts) (w : World) (hC : PCok c w) (hP : PAt c r w) (xb : Nat) (hX : w.heap[xb]? = some (.cells (sm00 (a : Int)).toArray 67 (0, 0))) (hne : c.pb ≠ xb) (hxn : c.n0 ≤ xb) : RetP Tryz.prog 246 [.pointer (some ⟨c.pb, 0, none⟩), .pointer (some ⟨xb, 0, none⟩), .int .i64 (d : Int)] w
    (PRes c r (loopP c.e blk a r) [c.pb, xb] w (fun s _ w' => StIn 42 67 xb w.heap.size s w')) (PErr c (loopP c.e blk a r) [c.pb, xb] w) := by
 refine retp_of [_, _, _] func246 rfl ntmps246 rfl ?_
 obtain ⟨w0, rfl⟩ : ∃ w0, w0 = w := ⟨_, rfl⟩
 have hP' := hP
 dsimp only [PAt, pcell] at hP
 have st := St.of2 [c.pb, xb] hP hX hne
 have KC : ∀ {w'}, Chg [c.pb, xb] w0 w' → PCok c w' := fun ch => hC.k2 ch hxn
 have h20 := hC.len
 have hl := suf_len hr
 have hs := loopP.eq_1 c.e blk a r
 refine sr ?_
 iterate 3 refine ym ?_
 refine vc_e (e_callp [_] rfl rfl call260 rfl (pcond_any c hR hg r hr _ (KC st.chg) (by exact st.rs 0)) (by rintro _ w' ⟨f, hf, rfl, ch⟩ a ha; exact And.intro ha (Or.inr ⟨_, rfl, f, by rw [hs, hf], rfl, st.chg.trans (ch.mono (by simp))⟩)) ?_)
 rintro _ w ⟨x, r1, hx, hsfr1, hlnr1, hP1, cw, ox, cx, Sx, rfl, hQ, hN⟩
 have hNSx := hN.le st.chg.size
 replace st := St.prsT (b := c.pb) st 0 rfl cw (.inl (.head _)) hP1 (holds_ex hQ) hN.2
 dsimp only [setNth] at st
 rw [hx] at hs; dsimp only at hs
 have hr1 := hsfr1.trans hr
 refine ynk ?_
 refine vy (y_fa0 rfl underlying67 rfl rfl sizeOf64 rfl) ?_
 refine vc_e (est st 2 sizeOf64 ?_)
 intro w st; dsimp only [setNth, wr] at st
 refine ynk ?_
 refine yfz 3 underlying67 sizeOf40 ?_
 refine vc_e (est st 2 sizeOf40 ?_)
 intro w st; dsimp only [setNth, wr] at st
 refine et (vk3 0 1 2 (vc_region ?_))
 iterate 3 refine ym ?_
 refine vc_e (e_callp [_, _] rfl rfl call261 rfl (hB r1 hr1 _ (KC st.chg) (by exact st.rs 1)) (by rintro _ w' ⟨f, hf, rfl, ch⟩ a ha; exact And.intro ha (Or.inr ⟨_, rfl, f, by rw [hs, hf], rfl, st.chg.trans (ch.mono (by simp))⟩)) ?_)
 rintro _ w ⟨l1, r2, hx, hsfr2, hlnr2, hP1, cw, ob, cb, Sb, rfl, hQ, hN⟩
 have hNSb := hN.le st.chg.size
 replace st := St.prsT (b := c.pb) st 1 rfl cw (.inl (.head _)) hP1 (holds_sm hQ) hN.2
 dsimp only [setNth] at st
 rw [hx] at hs; dsimp only at hs
 have hr2 := hsfr2.trans hr1
 refine ynk ?_
 refine yfz 4 underlying67 sizeOf65 ?_
 refine vc_e (est st 3 sizeOf65 ?_)
 intro w st; dsimp only [setNth, wr] at st
 refine vc_end ?_
 refine vq_ret0 (.inr rfl) results246 ?_
 refine .inl ⟨_, rfl, ?_⟩
 exact ⟨_, r2, hs, hsfr2.trans hsfr1, by omega, (by exact st.rs 2), st.chg, ox, ob, none, cx, cb, 0, Sx, Sb, [], (by exact st.rs 3), (st.res (i := 1) rfl).1, (st.res (i := 0) rfl).1, smr_nil, by rw [List.append_nil]; exact hNSx.app hNSb (st.ne (i := 1) (j := 0) (by decide) rfl rfl)⟩
theorem pguard_of (c : PCtx) (hR : c.R = 75) (hg : c.g = 0) (d : Nat) (blk : List Tok → PR (List Sm)) (hB : BRead 261 c d blk) (a : Nat) (r : List Tok) (hr : r <:+ c.ts) (w : World) (hC : PCok c w) (hP : PAt c r w) (xb : Nat) (hX : w.heap[xb]? = some (.cells (sm00 (a : Int)).toArray 67 (0, 0))) (hne : c.pb ≠ xb) (hxn : c.n0 ≤ xb) : RetP Tryz.prog 247 [.pointer (some ⟨c.pb, 0, none⟩), .pointer (some ⟨xb, 0, none⟩), .int .i64 (d : Int)] w
    (PRes c r (guardP c.e blk a r) [c.pb, xb] w (fun s _ w' => StIn 42 67 xb w.heap.size s w')) (PErr c (guardP c.e blk a r) [c.pb, xb] w) := by
 refine retp_of [_, _, _] func247 rfl ntmps247 rfl ?_
 obtain ⟨w0, rfl⟩ : ∃ w0, w0 = w := ⟨_, rfl⟩
 have hP' := hP
 dsimp only [PAt, pcell] at hP
 have st := St.of2 [c.pb, xb] hP hX hne
 have KC : ∀ {w'}, Chg [c.pb, xb] w0 w' → PCok c w' := fun ch => hC.k2 ch hxn
 have h20 := hC.len
 have hl := suf_len hr
 have hs := guardP.eq_1 c.e blk a r
 refine sr ?_
 iterate 3 refine ym ?_
 refine vc_e (e_callp [_] rfl rfl call146 rfl (pname_any c hR r hr _ (KC st.chg) (by exact st.rs 0)) (by rintro _ w' ⟨f, hf, rfl, ch⟩ a ha; exact And.intro ha (Or.inr ⟨_, rfl, f, by rw [hs, hf], rfl, st.chg.trans (ch.mono (by simp))⟩)) ?_)
 rintro _ w ⟨t, r1, hx, hsf, hln, hP1, cw, rfl⟩
 replace st := St.prs (b := c.pb) st 0 rfl cw (.inl (.head _)) hP1
 dsimp only [setNth] at st
 rw [hx] at hs; dsimp only at hs
 have hr1 := hsf.trans hr
 have hsfr1 := hsf
 have hlnr1 := hln
 refine vy (y_fld rfl underlying118 rfl rfl isAgg9 rfl) ?_
 refine ynk ?_
 refine vy (y_fa0 rfl underlying67 rfl rfl sizeOf64 rfl) ?_
 refine vc_e (est st 1 sizeOf64 ?_)
 intro w st; dsimp only [setNth, wr] at st
 refine ynk ?_
 refine yfz 1 underlying67 sizeOf9 ?_
 refine vc_e (est st 1 sizeOf9 ?_)
 intro w st; dsimp only [setNth, wr] at st
 refine et (vk3 0 1 2 (vc_region ?_))
 iterate 3 refine ym ?_
 refine vc_e (e_callp [_, _] rfl rfl call261 rfl (hB r1 hr1 _ (KC st.chg) (by exact st.rs 0)) (by rintro _ w' ⟨f, hf, rfl, ch⟩ a ha; exact And.intro ha (Or.inr ⟨_, rfl, f, by rw [hs, hf], rfl, st.chg.trans (ch.mono (by simp))⟩)) ?_)
 rintro _ w ⟨l1, r2, hx, hsfr2, hlnr2, hP1, cw, ob, cb, Sb, rfl, hQ, hN⟩
 have hNSb := hN.le st.chg.size
 replace st := St.prsT (b := c.pb) st 0 rfl cw (.inl (.head _)) hP1 (holds_sm hQ) hN.2
 dsimp only [setNth] at st
 rw [hx] at hs; dsimp only at hs
 have hr2 := hsfr2.trans hr1
 refine ynk ?_
 refine yfz 4 underlying67 sizeOf65 ?_
 refine vc_e (est st 2 sizeOf65 ?_)
 intro w st; dsimp only [setNth, wr] at st
 refine vc_end ?_
 refine vq_ret0 (.inr rfl) results247 ?_
 refine .inl ⟨_, rfl, ?_⟩
 exact ⟨_, r2, hs, hsfr2.trans hsfr1, by omega, (by exact st.rs 1), st.chg, none, ob, none, 0, cb, 0, [], Sb, [], (by exact st.rs 2), exr_nil, (st.res (i := 0) rfl).1, smr_nil, by simpa using hNSb⟩
/-- what statements begin with, and what reads what follows -/
abbrev formsL (c : PCtx) : List (Wd × Value) := [(wIf, .func (.func 245) [.pointer (some ⟨c.pb, 0, none⟩)].toArray #[]), (wWhile, .func (.func 246) [.pointer (some ⟨c.pb, 0, none⟩)].toArray #[]), (wLock, .func (.func 247) [.pointer (some ⟨c.pb, 0, none⟩)].toArray #[]), (wPrint, .func (.func 248) [.pointer (some ⟨c.pb, 0, none⟩)].toArray #[]), (wSkip, .func (.func 249) [.pointer (some ⟨c.pb, 0, none⟩)].toArray #[])]

theorem pforms_any (c : PCtx) (w : World) : Ret Tryz.prog 230 [.pointer (some ⟨c.pb, 0, none⟩)] w fun v w' => ∃ b, v = .map (some b) ∧ w.heap.size ≤ b ∧ w'.heap[b]? = some (mapF (formsL c)) ∧ Chg [] w w' := by
 refine ret_of [_] func230 rfl ntmps230 rfl ?_
 have st := St.init w []
 obtain ⟨w0, rfl⟩ : ∃ w0, w0 = w := ⟨_, rfl⟩
 refine sr ?_
 refine ya ?_
 refine et (vk1 0 (sr ?_))
 refine vc_e (e_mkF st rfl rfl ?_)
 intro b3 w hb3 st
 refine ym ?_
 refine vy (y_mf [_] [] rfl rfl) ?_
 refine vc_e (e_inF st 0 rfl rfl rfl rfl rfl (by (right; assumption)) underlying244 underlying9 (by simp [getF]) ?_)
 intro w st; dsimp only [setNth, List.cons_append, List.nil_append] at st
 refine ym ?_
 refine vy (y_mf [_] [] rfl rfl) ?_
 refine vc_e (e_inF st 0 rfl rfl rfl rfl rfl (by (right; assumption)) underlying244 underlying9 (by simp [getF]) ?_)
 intro w st; dsimp only [setNth, List.cons_append, List.nil_append] at st
 refine ym ?_
 refine vy (y_mf [_] [] rfl rfl) ?_
 refine vc_e (e_inF st 0 rfl rfl rfl rfl rfl (by (right; assumption)) underlying244 underlying9 (by simp [getF]) ?_)
 intro w st; dsimp only [setNth, List.cons_append, List.nil_append] at st
 refine ym ?_
 refine vy (y_mf [_] [] rfl rfl) ?_
 refine vc_e (e_inF st 0 rfl rfl rfl rfl rfl (by (right; assumption)) underlying244 underlying9 (by simp [getF]) ?_)
 intro w st; dsimp only [setNth, List.cons_append, List.nil_append] at st
 refine ym ?_
 refine vy (y_mf [_] [] rfl rfl) ?_
 refine vc_e (e_inF st 0 rfl rfl rfl rfl rfl (by (right; assumption)) underlying244 underlying9 (by simp [getF]) ?_)
 intro w st; dsimp only [setNth, List.cons_append, List.nil_append] at st
 refine ym ?_
 refine ya ?_
 refine et (vk1 2 (vc_ret ?_))
 refine vr1 st results230 ?_
 exact ⟨b3, rfl, hb3, st.res (i := 0) rfl, st.chg⟩
set_option maxHeartbeats 2000000 in
theorem pstmt_of (c : PCtx) (hR : c.R = 75) (hg : c.g = 0) (d : Nat) (blk : List Tok → PR (List Sm)) (hB : BRead 261 c d blk) : SRead c d (stmtW c.e blk) := by
 intro r hr w hC hP
 refine retp_of [_, _] func201 rfl ntmps201 rfl ?_
 obtain ⟨w0, rfl⟩ : ∃ w0, w0 = w := ⟨_, rfl⟩
 have hP' := hP
 dsimp only [PAt, pcell] at hP
 have st := St.of1 [c.pb] hP
 have h20 := hC.len
 have hl := suf_len hr
 have hs := stmtW_eq c.e blk r
 refine sr ?_
 refine vc_e (e_al (l := [_, _, _, _, _, _, _]) st rfl rfl zeroValue67 rfl ?_)
 intro b4 w hb4 st
 refine et (vk3 0 1 4 (sr ?_))
 refine ym ?_
 refine vc_e (e_call [_] rfl rfl call112 rfl (pat_any c r hr _ (hC.k1 st.chg) (by exact st.rs 1)) ?_)
 rintro _ w ⟨rfl, cw⟩
 replace st := st.call0 cw
 refine vy (ybd (.agg #[_, _, _, _, _, _, _]) [(6, _)]) ?_
 refine vc_e (e_al (l := [_, _, _, _, _, _, _]) st rfl rfl zeroValue67 rfl ?_)
 intro b5 w hb5 st
 refine vc_e (ests st 0 [_, _, _, _, _, _, _] sizeOf67 ?_)
 intro w st; dsimp only [setNth, wr] at st
 refine et (vk4 0 1 4 5 (sr ?_))
 have hpx : c.pb ≠ b5 := st.bne 2 0 (by decide) rfl rfl
 refine ym ?_
 refine vc_e (e_call [_] rfl rfl call109 rfl (phere_any c r hr _ (hC.k1 st.chg) (by exact st.rs 2)) ?_)
 rintro _ w ⟨rfl, cw⟩
 replace st := st.call0 cw
 refine vc_e (e_al (l := [_, _, _, _]) st rfl rfl zeroValue118 rfl ?_)
 intro b6 w hb6 st
 refine vc_e (ests st 0 [_, _, _, _] sizeOf118 ?_)
 intro w st; dsimp only [setNth, wr] at st
 refine et (vk5 0 1 4 5 6 (vc_seq (vc_seq ?_)))
 refine vdr Tryz.mixed [Yt 0, Yt 2, Yt 3, Nt 1, Nt 4, Yt 5, Yt 6, Yt 7, Yt 8, Yt 9] [.blk b6 (.cells (tkL (here r)).toArray 118 (0, 0))] st ?_
 clear st; intro w st hS
 refine pm hS ?_
 refine pfz hS 1 underlying118 sizeOf9 ?_
 refine pld hS 0 isAgg9 ?_
 refine vp_do rfl (e_call [_] rfl rfl call230 rfl (pforms_any c _) ?_)
 rintro _ w ⟨bm, rfl, hbm, hMp, cw⟩
 replace st := St.pushR (r := .blk bm (mapF (formsL c))) st cw hMp (by simpa [Res.at?] using hbm)
 refine vp_next st.dr ?_; intro hS
 refine vp_do rfl (e_lkF st 0 rfl rfl rfl rfl rfl underlying244 underlying9 zeroValue242 ?_)
 refine vp_next st.dr ?_; intro hS
 refine pm hS ?_
 iterate 2 refine vp_take rfl rfl rfl hS (fun w st => y_ext rfl rfl) ?_
 iterate 2 refine vp_take rfl rfl rfl hS (fun w st => y_as rfl) ?_
 refine vp_end (vq_then (vk7 0 1 4 5 6 7 8 (sr ?_)))
 refine ym ?_
 refine vmb ?_ ?_
 ·intro hg23
  try simp only [dn] at hg23
  refine vy (y_fa0 rfl underlying118 rfl rfl sizeOf116 rfl) ?_
  refine yl st 1 isAgg116 ?_
  refine vy (y_eqi rfl rfl) ?_
  refine ypt ?_
  refine et (vk6 0 1 4 5 7 27 ?_)
  refine vif ?_ ?_
  ·intro hc27
   try simp only [dn] at hc27
   refine sr ?_
   refine ym ?_
   refine vc_e (e_call [_] rfl rfl call111 rfl (pnext_any c r hr (kind_ne (k := 2) (by omega) (by decide)) _ (hC.k1 st.chg) (by exact st.rs 4)) ?_)
   rintro _ w ⟨rfl, hP1, cw⟩
   replace st := St.prs (b := c.pb) st 4 rfl cw (.inl (.head _)) hP1
   dsimp only [setNth] at st
   refine et (vk4 1 4 5 7 (sr ?_))
   iterate 2 refine ym ?_
   have hkd : (here r).kind = 2 := by omega
   have hlt := tail_lt (kind_ne hkd (by decide))
   rcases getF5 (v1 := (.func (.func 245) [.pointer (some ⟨c.pb, 0, none⟩)].toArray #[])) (v2 := (.func (.func 246) [.pointer (some ⟨c.pb, 0, none⟩)].toArray #[])) (v3 := (.func (.func 247) [.pointer (some ⟨c.pb, 0, none⟩)].toArray #[])) (v4 := (.func (.func 248) [.pointer (some ⟨c.pb, 0, none⟩)].toArray #[])) (v5 := (.func (.func 249) [.pointer (some ⟨c.pb, 0, none⟩)].toArray #[])) (here r).text with ⟨he1, he2⟩ | ⟨he1, he2⟩ | ⟨he1, he2⟩ | ⟨he1, he2⟩ | ⟨he1, he2⟩ | ⟨he1, he2⟩
   rotate_right 1
   ·exfalso; rw [he2] at hg23; cases hg23
   ·have hform : formT (here r) wIf = true := by unfold formT; simp [he1, hkd]
    rw [if_pos hform] at hs
    refine vc_e (e_callvp (f := 245) (first := [.pointer (some ⟨c.pb, 0, none⟩)]) (captured := []) [_, _] rfl rfl (by show some _ = some _; rw [he2]; rfl) call245 rfl (pchoice_of c hR hg d blk hB (atT c.e r) r.tail (suf_tail hr) _ (hC.k1 st.chg) (st.res (i := 4) rfl) b5 (st.res (i := 2) rfl) hpx (Nat.le_trans hC.le hb5)) (by
      rintro _ w' ⟨f, hf, rfl, ch⟩ a ha
      exact And.intro ha (Or.inr ⟨_, rfl, f, by rw [hs, hf], rfl, st.chg.trans' ch (fun k hk => by
        rcases List.mem_cons.1 hk with rfl | hk
        · exact .inl (.head _)
        · exact .inr (by simp at hk; subst hk; exact hb5))⟩)) ?_)
    rintro _ w ⟨s, r2, hx, hsfr2, hlnr2, hP1, cw, oe, ob, ol, ce, cb, cl, Se, Sb, Sl, hX2, hE2, hB2, hL2, hN2⟩
    rw [hx] at hs
    have hN3 := hN2.le st.chg.size
    have hS2 : SmS 42 67 w s (smC s oe ob ol ce cb cl) (Se ++ (Sb ++ Sl)) := SmS_iff.2 ⟨oe, ce, ob, cb, ol, cl, Se, Sb, Sl, rfl, hE2, hB2, hL2, rfl⟩
    replace st := (st.pick [4, 2, 0, 1, 3] rfl (by decide)).prs2 cw (.inl (.head _)) (.inr hb5) hP1 hX2 (holds_sms hS2) hN2.2
    refine et (vk2 4 5 (sr ?_))
    refine yla st 2 [_, _, _, _, _, _, _] isAgg67 sizeOf67 ?_
    refine vc_e (ests st 5 [_, _, _, _, _, _, _] sizeOf67 ?_)
    intro w st; dsimp only [setNth, wr] at st
    refine et (vk1 4 (vc_ret (vq_then_ret ?_)))
    refine vq_ret1 st (.inl rfl) results201 (by exact .cell 5 rfl rfl isAgg67 sizeOf67) ?_
    refine .inl ⟨_, rfl, ?_⟩
    exact ⟨s, r2, hs, hsfr2.trans (List.tail_suffix _), by omega, (by exact st.rs 1), st.chg, oe, ob, ol, ce, cb, cl, _, rfl, (st.res (i := 0) rfl).1, hN3⟩
   ·have hform : formT (here r) wWhile = true := by unfold formT; simp [he1, hkd]
    rw [if_neg (form_ne (s := wIf) he1 (by decide)), if_pos hform] at hs
    refine vc_e (e_callvp (f := 246) (first := [.pointer (some ⟨c.pb, 0, none⟩)]) (captured := []) [_, _] rfl rfl (by show some _ = some _; rw [he2]; rfl) call246 rfl (ploop_of c hR hg d blk hB (atT c.e r) r.tail (suf_tail hr) _ (hC.k1 st.chg) (st.res (i := 4) rfl) b5 (st.res (i := 2) rfl) hpx (Nat.le_trans hC.le hb5)) (by
      rintro _ w' ⟨f, hf, rfl, ch⟩ a ha
      exact And.intro ha (Or.inr ⟨_, rfl, f, by rw [hs, hf], rfl, st.chg.trans' ch (fun k hk => by
        rcases List.mem_cons.1 hk with rfl | hk
        · exact .inl (.head _)
        · exact .inr (by simp at hk; subst hk; exact hb5))⟩)) ?_)
    rintro _ w ⟨s, r2, hx, hsfr2, hlnr2, hP1, cw, oe, ob, ol, ce, cb, cl, Se, Sb, Sl, hX2, hE2, hB2, hL2, hN2⟩
    rw [hx] at hs
    have hN3 := hN2.le st.chg.size
    have hS2 : SmS 42 67 w s (smC s oe ob ol ce cb cl) (Se ++ (Sb ++ Sl)) := SmS_iff.2 ⟨oe, ce, ob, cb, ol, cl, Se, Sb, Sl, rfl, hE2, hB2, hL2, rfl⟩
    replace st := (st.pick [4, 2, 0, 1, 3] rfl (by decide)).prs2 cw (.inl (.head _)) (.inr hb5) hP1 hX2 (holds_sms hS2) hN2.2
    refine et (vk2 4 5 (sr ?_))
    refine yla st 2 [_, _, _, _, _, _, _] isAgg67 sizeOf67 ?_
    refine vc_e (ests st 5 [_, _, _, _, _, _, _] sizeOf67 ?_)
    intro w st; dsimp only [setNth, wr] at st
    refine et (vk1 4 (vc_ret (vq_then_ret ?_)))
    refine vq_ret1 st (.inl rfl) results201 (by exact .cell 5 rfl rfl isAgg67 sizeOf67) ?_
    refine .inl ⟨_, rfl, ?_⟩
    exact ⟨s, r2, hs, hsfr2.trans (List.tail_suffix _), by omega, (by exact st.rs 1), st.chg, oe, ob, ol, ce, cb, cl, _, rfl, (st.res (i := 0) rfl).1, hN3⟩
   ·have hform : formT (here r) wLock = true := by unfold formT; simp [he1, hkd]
    rw [if_neg (form_ne (s := wIf) he1 (by decide)), if_neg (form_ne (s := wWhile) he1 (by decide)), if_pos hform] at hs
    refine vc_e (e_callvp (f := 247) (first := [.pointer (some ⟨c.pb, 0, none⟩)]) (captured := []) [_, _] rfl rfl (by show some _ = some _; rw [he2]; rfl) call247 rfl (pguard_of c hR hg d blk hB (atT c.e r) r.tail (suf_tail hr) _ (hC.k1 st.chg) (st.res (i := 4) rfl) b5 (st.res (i := 2) rfl) hpx (Nat.le_trans hC.le hb5)) (by
      rintro _ w' ⟨f, hf, rfl, ch⟩ a ha
      exact And.intro ha (Or.inr ⟨_, rfl, f, by rw [hs, hf], rfl, st.chg.trans' ch (fun k hk => by
        rcases List.mem_cons.1 hk with rfl | hk
        · exact .inl (.head _)
        · exact .inr (by simp at hk; subst hk; exact hb5))⟩)) ?_)
    rintro _ w ⟨s, r2, hx, hsfr2, hlnr2, hP1, cw, oe, ob, ol, ce, cb, cl, Se, Sb, Sl, hX2, hE2, hB2, hL2, hN2⟩
    rw [hx] at hs
    have hN3 := hN2.le st.chg.size
    have hS2 : SmS 42 67 w s (smC s oe ob ol ce cb cl) (Se ++ (Sb ++ Sl)) := SmS_iff.2 ⟨oe, ce, ob, cb, ol, cl, Se, Sb, Sl, rfl, hE2, hB2, hL2, rfl⟩
    replace st := (st.pick [4, 2, 0, 1, 3] rfl (by decide)).prs2 cw (.inl (.head _)) (.inr hb5) hP1 hX2 (holds_sms hS2) hN2.2
    refine et (vk2 4 5 (sr ?_))
    refine yla st 2 [_, _, _, _, _, _, _] isAgg67 sizeOf67 ?_
    refine vc_e (ests st 5 [_, _, _, _, _, _, _] sizeOf67 ?_)
    intro w st; dsimp only [setNth, wr] at st
    refine et (vk1 4 (vc_ret (vq_then_ret ?_)))
    refine vq_ret1 st (.inl rfl) results201 (by exact .cell 5 rfl rfl isAgg67 sizeOf67) ?_
    refine .inl ⟨_, rfl, ?_⟩
    exact ⟨s, r2, hs, hsfr2.trans (List.tail_suffix _), by omega, (by exact st.rs 1), st.chg, oe, ob, ol, ce, cb, cl, _, rfl, (st.res (i := 0) rfl).1, hN3⟩
   ·have hform : formT (here r) wPrint = true := by unfold formT; simp [he1, hkd]
    rw [if_neg (form_ne (s := wIf) he1 (by decide)), if_neg (form_ne (s := wWhile) he1 (by decide)), if_neg (form_ne (s := wLock) he1 (by decide)), if_pos hform] at hs
    refine vc_e (e_callvp (f := 248) (first := [.pointer (some ⟨c.pb, 0, none⟩)]) (captured := []) [_, _] rfl rfl (by show some _ = some _; rw [he2]; rfl) call248 rfl (pprint_any c hR hg  (atT c.e r) r.tail (suf_tail hr) _ (hC.k1 st.chg) (st.res (i := 4) rfl) b5 (st.res (i := 2) rfl) hpx (Nat.le_trans hC.le hb5) (.int .i64 (d : Int))) (by
      rintro _ w' ⟨f, hf, rfl, ch⟩ a ha
      exact And.intro ha (Or.inr ⟨_, rfl, f, by rw [hs, hf], rfl, st.chg.trans' ch (fun k hk => by
        rcases List.mem_cons.1 hk with rfl | hk
        · exact .inl (.head _)
        · exact .inr (by simp at hk; subst hk; exact hb5))⟩)) ?_)
    rintro _ w ⟨s, r2, hx, hsfr2, hlnr2, hP1, cw, oe, ob, ol, ce, cb, cl, Se, Sb, Sl, hX2, hE2, hB2, hL2, hN2⟩
    rw [hx] at hs
    have hN3 := hN2.le st.chg.size
    have hS2 : SmS 42 67 w s (smC s oe ob ol ce cb cl) (Se ++ (Sb ++ Sl)) := SmS_iff.2 ⟨oe, ce, ob, cb, ol, cl, Se, Sb, Sl, rfl, hE2, hB2, hL2, rfl⟩
    replace st := (st.pick [4, 2, 0, 1, 3] rfl (by decide)).prs2 cw (.inl (.head _)) (.inr hb5) hP1 hX2 (holds_sms hS2) hN2.2
    refine et (vk2 4 5 (sr ?_))
    refine yla st 2 [_, _, _, _, _, _, _] isAgg67 sizeOf67 ?_
    refine vc_e (ests st 5 [_, _, _, _, _, _, _] sizeOf67 ?_)
    intro w st; dsimp only [setNth, wr] at st
    refine et (vk1 4 (vc_ret (vq_then_ret ?_)))
    refine vq_ret1 st (.inl rfl) results201 (by exact .cell 5 rfl rfl isAgg67 sizeOf67) ?_
    refine .inl ⟨_, rfl, ?_⟩
    exact ⟨s, r2, hs, hsfr2.trans (List.tail_suffix _), by omega, (by exact st.rs 1), st.chg, oe, ob, ol, ce, cb, cl, _, rfl, (st.res (i := 0) rfl).1, hN3⟩
   ·have hform : formT (here r) wSkip = true := by unfold formT; simp [he1, hkd]
    rw [if_neg (form_ne (s := wIf) he1 (by decide)), if_neg (form_ne (s := wWhile) he1 (by decide)), if_neg (form_ne (s := wLock) he1 (by decide)), if_neg (form_ne (s := wPrint) he1 (by decide)), if_pos hform] at hs
    refine vc_e (e_callvp (f := 249) (first := [.pointer (some ⟨c.pb, 0, none⟩)]) (captured := []) [_, _] rfl rfl (by show some _ = some _; rw [he2]; rfl) call249 rfl (pskip_any c hR hg  (atT c.e r) r.tail (suf_tail hr) _ (hC.k1 st.chg) (st.res (i := 4) rfl) b5 (st.res (i := 2) rfl) hpx (Nat.le_trans hC.le hb5) (.int .i64 (d : Int))) (by
      rintro _ w' ⟨f, hf, rfl, ch⟩ a ha
      exact And.intro ha (Or.inr ⟨_, rfl, f, by rw [hs, hf], rfl, st.chg.trans' ch (fun k hk => by
        rcases List.mem_cons.1 hk with rfl | hk
        · exact .inl (.head _)
        · exact .inr (by simp at hk; subst hk; exact hb5))⟩)) ?_)
    rintro _ w ⟨s, r2, hx, hsfr2, hlnr2, hP1, cw, oe, ob, ol, ce, cb, cl, Se, Sb, Sl, hX2, hE2, hB2, hL2, hN2⟩
    rw [hx] at hs
    have hN3 := hN2.le st.chg.size
    have hS2 : SmS 42 67 w s (smC s oe ob ol ce cb cl) (Se ++ (Sb ++ Sl)) := SmS_iff.2 ⟨oe, ce, ob, cb, ol, cl, Se, Sb, Sl, rfl, hE2, hB2, hL2, rfl⟩
    replace st := (st.pick [4, 2, 0, 1, 3] rfl (by decide)).prs2 cw (.inl (.head _)) (.inr hb5) hP1 hX2 (holds_sms hS2) hN2.2
    refine et (vk2 4 5 (sr ?_))
    refine yla st 2 [_, _, _, _, _, _, _] isAgg67 sizeOf67 ?_
    refine vc_e (ests st 5 [_, _, _, _, _, _, _] sizeOf67 ?_)
    intro w st; dsimp only [setNth, wr] at st
    refine et (vk1 4 (vc_ret (vq_then_ret ?_)))
    refine vq_ret1 st (.inl rfl) results201 (by exact .cell 5 rfl rfl isAgg67 sizeOf67) ?_
    refine .inl ⟨_, rfl, ?_⟩
    exact ⟨s, r2, hs, hsfr2.trans (List.tail_suffix _), by omega, (by exact st.rs 1), st.chg, oe, ob, ol, ce, cb, cl, _, rfl, (st.res (i := 0) rfl).1, hN3⟩
  intro hc27
  try simp only [dn] at hc27
  have hs := stmtW_assign (e := c.e) (blk := blk) (ts := r) (.inr (by omega))
  refine kt (vk3 0 4 5 (sr ?_))
  refine ym ?_
  refine vc_e (e_callp [_, _] rfl rfl call231 rfl (passign_any c hR hg  (atT c.e r) r hr _ (hC.k1 st.chg) (st.res (i := 4) rfl) b5 (st.res (i := 2) rfl) hpx (Nat.le_trans hC.le hb5)) (by
    rintro _ w' ⟨f, hf, rfl, ch⟩ a ha
    exact And.intro ha (Or.inr ⟨_, rfl, f, by rw [hs, hf], rfl, st.chg.trans' ch (fun k hk => by
      rcases List.mem_cons.1 hk with rfl | hk
      · exact .inl (.head _)
      · exact .inr (by simp at hk; subst hk; exact hb5))⟩)) ?_)
  rintro _ w ⟨s, r2, hx, hsfr2, hlnr2, hP1, cw, oe, ob, ol, ce, cb, cl, Se, Sb, Sl, hX2, hE2, hB2, hL2, hN2⟩
  rw [hx] at hs
  have hN3 := hN2.le st.chg.size
  have hS2 : SmS 42 67 w s (smC s oe ob ol ce cb cl) (Se ++ (Sb ++ Sl)) := SmS_iff.2 ⟨oe, ce, ob, cb, ol, cl, Se, Sb, Sl, rfl, hE2, hB2, hL2, rfl⟩
  replace st := (st.pick [4, 2, 0, 1, 3] rfl (by decide)).prs2 cw (.inl (.head _)) (.inr hb5) hP1 hX2 (holds_sms hS2) hN2.2
  refine et (vk2 4 5 (sr ?_))
  refine yla st 2 [_, _, _, _, _, _, _] isAgg67 sizeOf67 ?_
  refine vc_e (ests st 5 [_, _, _, _, _, _, _] sizeOf67 ?_)
  intro w st; dsimp only [setNth, wr] at st
  refine et (vk1 4 (vc_ret ?_))
  refine vq_ret1 st (.inl rfl) results201 (by exact .cell 5 rfl rfl isAgg67 sizeOf67) ?_
  refine .inl ⟨_, rfl, ?_⟩
  exact ⟨s, r2, hs, hsfr2, hlnr2, (by exact st.rs 1), st.chg, oe, ob, ol, ce, cb, cl, _, rfl, (st.res (i := 0) rfl).1, hN3⟩
 intro hg23
 try simp only [dn] at hg23
 have hs := stmtW_assign (e := c.e) (blk := blk) (ts := r) (.inl (by
   rcases getF5 (v1 := (.func (.func 245) [.pointer (some ⟨c.pb, 0, none⟩)].toArray #[])) (v2 := (.func (.func 246) [.pointer (some ⟨c.pb, 0, none⟩)].toArray #[])) (v3 := (.func (.func 247) [.pointer (some ⟨c.pb, 0, none⟩)].toArray #[])) (v4 := (.func (.func 248) [.pointer (some ⟨c.pb, 0, none⟩)].toArray #[])) (v5 := (.func (.func 249) [.pointer (some ⟨c.pb, 0, none⟩)].toArray #[])) (here r).text with ⟨_, he2⟩ | ⟨_, he2⟩ | ⟨_, he2⟩ | ⟨_, he2⟩ | ⟨_, he2⟩ | ⟨he1, _⟩
   all_goals first | exact he1 | (exfalso; rw [he2] at hg23; cases hg23)))
 iterate 3 refine vsk ?_
 refine ypf ?_
 refine et (vk6 0 1 4 5 7 27 ?_)
 refine vc_iff rfl ?_
 refine kt (vk3 0 4 5 (sr ?_))
 refine ym ?_
 refine vc_e (e_callp [_, _] rfl rfl call231 rfl (passign_any c hR hg  (atT c.e r) r hr _ (hC.k1 st.chg) (st.res (i := 4) rfl) b5 (st.res (i := 2) rfl) hpx (Nat.le_trans hC.le hb5)) (by
   rintro _ w' ⟨f, hf, rfl, ch⟩ a ha
   exact And.intro ha (Or.inr ⟨_, rfl, f, by rw [hs, hf], rfl, st.chg.trans' ch (fun k hk => by
     rcases List.mem_cons.1 hk with rfl | hk
     · exact .inl (.head _)
     · exact .inr (by simp at hk; subst hk; exact hb5))⟩)) ?_)
 rintro _ w ⟨s, r2, hx, hsfr2, hlnr2, hP1, cw, oe, ob, ol, ce, cb, cl, Se, Sb, Sl, hX2, hE2, hB2, hL2, hN2⟩
 rw [hx] at hs
 have hN3 := hN2.le st.chg.size
 have hS2 : SmS 42 67 w s (smC s oe ob ol ce cb cl) (Se ++ (Sb ++ Sl)) := SmS_iff.2 ⟨oe, ce, ob, cb, ol, cl, Se, Sb, Sl, rfl, hE2, hB2, hL2, rfl⟩
 replace st := (st.pick [4, 2, 0, 1, 3] rfl (by decide)).prs2 cw (.inl (.head _)) (.inr hb5) hP1 hX2 (holds_sms hS2) hN2.2
 refine et (vk2 4 5 (sr ?_))
 refine yla st 2 [_, _, _, _, _, _, _] isAgg67 sizeOf67 ?_
 refine vc_e (ests st 5 [_, _, _, _, _, _, _] sizeOf67 ?_)
 intro w st; dsimp only [setNth, wr] at st
 refine et (vk1 4 (vc_ret ?_))
 refine vq_ret1 st (.inl rfl) results201 (by exact .cell 5 rfl rfl isAgg67 sizeOf67) ?_
 refine .inl ⟨_, rfl, ?_⟩
 exact ⟨s, r2, hs, hsfr2, hlnr2, (by exact st.rs 1), st.chg, oe, ob, ol, ce, cb, cl, _, rfl, (st.res (i := 0) rfl).1, hN3⟩
theorem pstmt_any (c : PCtx) (hR : c.R = 75) (hg : c.g = 0) : ∀ (m d : Nat), d + m = 64 → SRead c d (stmtP c.e m)
 | 0, d, h => by
  rw [stmtP_blk]
  exact pstmt_of c hR hg d _ (pblock_of c hR d 0 h (fun k hk => by omega))
 | m + 1, d, h => by
  rw [stmtP_blk]
  exact pstmt_of c hR hg d _ (pblock_of c hR d (m + 1) h (fun k hk => by
    obtain rfl : k = m := by omega
    exact pstmt_any c hR hg k (d + 1) (by omega)))
/-- the statements of a thread -/
theorem prest_any (c : PCtx) (hR : c.R = 75) (hg : c.g = 0) (r : List Tok) (hr : r <:+ c.ts) (w : World) (hC : PCok c w) (hP : PAt c r w) : RetP Tryz.prog 147 [.pointer (some ⟨c.pb, 0, none⟩), .int .i64 1] w
    (PRes c r (restP c.e 63 r) [c.pb] w (HB w)) (PErr c (restP c.e 63 r) [c.pb] w) := prest_of c hR 1 63 (r.length + 1) (pstmt_any c hR hg 63 1 rfl) r (Nat.lt_succ_self _) hr w hC hP

end Go.Proofs.YtnmhlpnapgojjaaGreatDoor.Pq


namespace Go.Proofs.YtnmhlpnapgojjaaGreatDoor.Pq
open Go.RowKit Sx LexS ParS _root_.Go.Proofs.Tryz
theorem Tryz.info69 : Tryz.prog.info? 69 = some Tryz.t69 := by kernel_rfl
/-- a thread's value -/
def HT (w : World) (t : Th) (v : Value) (w' : World) : Prop := ∃ ol ob cl cb Sq, v = .agg (thC t ol ob cl cb).toArray ∧ ThS 42 67 63 w' t (thC t ol ob cl cb) Sq ∧ Nw w.heap.size Sq
theorem hdecl (c : PCtx) (hR : c.R = 75) : Reader c 89 (declP c.e) := fun r hr w hC hP => pdecl_any c hR r hr w hC hP
theorem hinit (c : PCtx) (hR : c.R = 75) : Reader c 88 (initP c.e) := fun r hr w hC hP => pinit_any c hR r hr w hC hP
theorem holds_ths {w : World} {base : Nat} {s : Th} {l : List Value} {S : List Nat} (h : ThS 42 67 63 w s l S) : (Res.tree S fun w => ThS 42 67 63 w s l S).holds base w := holds_of h h.lt (fun a b h hk => h.kept hk)
theorem holds_thss {w : World} {base : Nat} {s : List Th} {l : List Value} {S : List Nat} (h : ThSs 42 67 63 w s l S) : (Res.tree S fun w => ThSs 42 67 63 w s l S).holds base w := holds_of h h.lt (fun a b h hk => h.kept hk)
/-- a new list of declarations reads as a row -/
theorem dcr_rd {w : World} {oa : Option Addr} {cap : Nat} {ds : List Dc} {S : List Nat} (h : DcR 63 w oa cap ds S) : RdRowC w oa (ds.flatMap dcL) := by
 obtain ⟨h1, -⟩ := h
 rcases Nat.eq_zero_or_pos ds.length with h0 | h0
 ·exact .inl (by rw [List.eq_nil_of_length_eq_zero h0]; rfl)
 ·obtain ⟨g, rfl⟩ := own_some h1 h0
  exact .inr ⟨_, rfl, fun k u hk => by rw [addr_add, Nat.zero_add]; exact own_cell h1 hk⟩
/-- the locals of a thread, so many having come -/
def contLo (e n : Nat) (acc : List Dc) (r : List Tok) : PR (List Dc) := match localsP e n r with
 | .error f => .error f
 | .ok (l, r') => .ok (acc ++ l, r')
theorem contLo_nil (e n : Nat) (r : List Tok) : localsP e n r = contLo e n [] r := by unfold contLo; cases localsP e n r with | error f => rfl | ok p => rfl
theorem contLo_end {e n : Nat} {acc : List Dc} {r : List Tok} (h : isT wLocal r = false) : contLo e (n + 1) acc r = .ok (acc, r) := by
 simp only [contLo, localsP, if_neg (show ¬ isT wLocal r = true by simp [h]), List.append_nil]
theorem contLo_step {e n : Nat} {acc : List Dc} {r : List Tok} (h : isT wLocal r = true) : contLo e (n + 1) acc r = match listP e (declP e) (r.length + 1) r.tail with
  | .error f => .error f
  | .ok (l, r') => contLo e n (acc ++ l) r' := by
 simp only [contLo, localsP, if_pos h]
 cases listP e (declP e) (r.length + 1) r.tail with
 | error f => rfl
 | ok p =>
  simp only
  cases localsP e n p.2 with
  | error f => rfl
  | ok q => simp
theorem threadP_eq (e : Nat) (ts : List Tok) : threadP e ts = match nameP e ts with
  | .error f => .error f
  | .ok (t, r) => match want e [123] r with
   | .error f => .error f
   | .ok r1 => match contLo e (r1.length + 1) [] r1 with
    | .error f => .error f
    | .ok (l, r2) => match restP e 63 r2 with
     | .error f => .error f
     | .ok (b, r3) => .ok (⟨t.text, l, b, (t.at_ : Int)⟩, r3) := by
 unfold threadP
 cases nameP e ts with
 | error f => rfl
 | ok p =>
  simp only
  cases want e [123] p.2 with
  | error f => rfl
  | ok r1 => simp only; rw [← contLo_nil]; rfl
/-- how many a list has: no more than the tokens it goes over -/
theorem listP_len (e : Nat) (one : List Tok → PR Dc) (h1 : ∀ r x r', one r = .ok (x, r') → r'.length < r.length) : ∀ (n : Nat) (r : List Tok) (l : List Dc) (r' : List Tok), listP e one n r = .ok (l, r') → l.length + r'.length ≤ r.length
 | 0, r, l, r', h => by simp [listP] at h
 | n + 1, r, l, r', h => by
  simp only [listP] at h
  cases ho : one r with
  | error f => rw [ho] at h; cases h
  | ok p =>
   obtain ⟨x, r1⟩ := p
   have hl := h1 _ _ _ ho
   rw [ho] at h; simp only at h
   split at h
   ·rename_i hc
    have ht := tail_lt (isT_ne hc)
    cases hq : listP e one n r1.tail with
    | error f => rw [hq] at h; cases h
    | ok q =>
     obtain ⟨l2, r2⟩ := q
     rw [hq] at h; cases h
     have := listP_len e one h1 n _ _ _ hq
     simp; omega
   ·cases hq : want e [59] r1 with
    | error f => rw [hq] at h; cases h
    | ok r2 =>
     rw [hq] at h; cases h
     obtain ⟨hc, rfl⟩ := want_ok hq
     have ht := tail_lt (isT_ne hc)
     simp; omega
theorem nameP_len {e : Nat} {r r' : List Tok} {t : Tok} (h : nameP e r = .ok (t, r')) : r'.length < r.length := by
 unfold nameP at h; split at h
 ·rename_i hk; cases h; exact tail_lt (kind_ne hk (by decide))
 ·cases h
theorem declP_len {e : Nat} (r : List Tok) (x : Dc) (r' : List Tok) (h : declP e r = .ok (x, r')) : r'.length < r.length := by
 unfold declP at h
 cases hn : nameP e r with
 | error f => rw [hn] at h; cases h
 | ok p => rw [hn] at h; cases h; exact nameP_len hn
theorem initP_len {e : Nat} (r : List Tok) (x : Dc) (r' : List Tok) (h : initP e r = .ok (x, r')) : r'.length < r.length := by
 unfold initP at h
 cases hn : nameP e r with
 | error f => rw [hn] at h; cases h
 | ok p =>
  obtain ⟨t, r1⟩ := p
  have hl := nameP_len hn
  rw [hn] at h; simp only at h
  split at h
  ·rename_i hc
   have ht := tail_lt (isT_ne hc)
   obtain ⟨R, hR⟩ : ∃ R, R = (if isT [45] r1.tail = true then r1.tail.tail else r1.tail) := ⟨_, rfl⟩
   have h4 : R.length ≤ r1.tail.length := by
    rw [hR]; split
    ·rw [List.length_tail]; omega
    ·exact Nat.le_refl _
   rw [← hR] at h
   cases hw : wordP e (isT [45] r1.tail) R with
   | error f => rw [hw] at h; cases h
   | ok q =>
    rw [hw] at h; cases h
    unfold wordP at hw; split at hw
    ·rename_i hk
     cases hw
     have h3 := tail_lt (kind_ne hk (by decide))
     simp only at hl ⊢
     omega
    ·cases hw
  ·cases h; simpa using hl
set_option maxHeartbeats 1000000 in
theorem pthread_any (c : PCtx) (hR : c.R = 75) (hg : c.g = 0) (r : List Tok) (hr : r <:+ c.ts) (w : World) (hC : PCok c w) (hP : PAt c r w) : RetP Tryz.prog 91 [.pointer (some ⟨c.pb, 0, none⟩)] w
    (PRes c r (threadP c.e r) [c.pb] w (HT w)) (PErr c (threadP c.e r) [c.pb] w) := by
 refine retp_of [_] func91 rfl ntmps91 rfl ?_
 obtain ⟨w0, rfl⟩ : ∃ w0, w0 = w := ⟨_, rfl⟩
 have hP' := hP
 dsimp only [PAt, pcell] at hP
 have st := St.of1 [c.pb] hP
 have h20 := hC.len
 have hl := suf_len hr
 have hs := threadP_eq c.e r
 replace st := st.ownNil 63 3
 refine sr ?_
 refine vc_e (e_al (l := [_, _, _, _]) st rfl rfl zeroValue69 rfl ?_)
 intro b2 w hb2 st
 refine et (vk2 0 2 (sr ?_))
 refine ym ?_
 refine vc_e (e_callp [_] rfl rfl call146 rfl (pname_any c hR r hr _ (hC.k1 st.chg) (by exact st.rs 2)) (by rintro _ w' ⟨f, hf, rfl, ch⟩ a ha; exact And.intro ha (Or.inr ⟨_, rfl, f, by rw [hs, hf], rfl, st.chg.trans ch⟩)) ?_)
 rintro _ w ⟨t, r1, hx, hsf, hln, hP1, cw, rfl⟩
 replace st := St.prs (b := c.pb) st 2 rfl cw (.inl (.head _)) hP1
 dsimp only [setNth] at st
 rw [hx] at hs; dsimp only at hs
 have hr1 := hsf.trans hr
 have hsfr1 := hsf
 have hlnr1 := hln
 refine vc_e (e_al (l := [_, _, _, _]) st rfl rfl zeroValue118 rfl ?_)
 intro b3 w hb3 st
 refine vc_e (ests st 0 [_, _, _, _] sizeOf118 ?_)
 intro w st; dsimp only [setNth, wr] at st
 refine et (vk3 0 2 3 (sr ?_))
 refine yfz 1 underlying118 sizeOf9 ?_
 refine yl st 0 isAgg9 ?_
 refine yfz 3 underlying118 sizeOf3 ?_
 refine yl st 0 isAgg3 ?_
 refine vy (ybd (.agg #[_, _, _, _]) [(0, _), (3, _)]) ?_
 refine vc_e (e_al (l := [_, _, _, _]) st rfl rfl zeroValue69 rfl ?_)
 intro b4 w hb4 st
 refine vc_e (ests st 0 [_, _, _, _] sizeOf69 ?_)
 intro w st; dsimp only [setNth, wr] at st
 refine et (vk3 0 2 4 (sr ?_))
 refine ym ?_
 refine vc_e (e_bs1 (l := [_]) st rfl rfl rfl rfl underlying50 sizeOf9 rfl rfl rfl zeroValue9 ?_)
 intro b13 w hb13 st
 refine vc_e (e_callp [_, _] rfl rfl call145 rfl (pwant_any c [[123]] (by simp) _ _ _ _ rfl r1 hr1 _ (hC.k1 st.chg) (by exact st.rs 5) hR (st.res (i := 0) rfl) (by exact st.bne 0 5 (by decide) rfl rfl)) (by rintro _ w' ⟨f, hf, rfl, ch⟩ a ha; rw [wantL_one] at hf; exact And.intro ha (Or.inr ⟨_, rfl, f, by rw [hs, hf], rfl, st.chg.trans ch⟩)) ?_)
 rintro _ w ⟨r2, hx, hsfr2, hlnr2, hP1, cw⟩
 rw [wantL_one] at hx
 rw [hx] at hs; dsimp only at hs
 replace st := St.prs (b := c.pb) st 5 rfl cw (.inl (.head _)) hP1
 dsimp only [setNth] at st
 have hr2 := hsfr2.trans hr1
 refine et (vk3 0 2 4 (vc_seq (vc_block ?_)))
 refine vc_loop (w0 := w0) (M := [c.pb]) (fun (y : List Dc × List Tok × Nat × Option Addr × Nat) => [(0, .pointer (some ⟨c.pb, 0, none⟩)), (2, .pointer (some ⟨b2, 0, none⟩)), (4, .pointer (some ⟨b4, 0, none⟩))]) (fun y => [.blk b4 (.cells [str t.text, .slice y.2.2.2.1 y.1.length y.2.2.2.2, .slice none 0 0, .int .i64 (t.at_ : Int)].toArray 69 (0, 0)), .own (.slice y.2.2.2.1 y.1.length y.2.2.2.2) 63 3 y.1.length (y.1.flatMap dcL), .blk b2 (.cells [str [], .slice none 0 0, .slice none 0 0, .int .i64 0].toArray 69 (0, 0)), .blk c.pb (.cells (pcell c y.2.1).toArray c.T (0, 0))]) (fun y _ => y.2.1 <:+ r2 ∧ y.2.1.length + y.1.length ≤ r2.length ∧ y.2.1.length < y.2.2.1 ∧ contLo c.e (r2.length + 1) [] r2 = contLo c.e y.2.2.1 y.1 y.2.1) (fun y => y.2.1.length) ([], r2, r2.length + 1, none, 0) ⟨rfl, rfl, rfl, trivial⟩ (st.pick [1, 4, 3, 5] rfl (by decide)) ⟨List.suffix_refl _, by simp, by simp, rfl⟩ ?_
 clear st
 rintro ⟨acc, r3, k, oq, cq⟩ w ⟨hsf3, hl3, hk3, hlo⟩ st
 dsimp only at hsf3 hl3 hk3 hlo st
 have hr3 := hsf3.trans hr2
 obtain ⟨k, rfl⟩ : ∃ j, k = j + 1 := ⟨k - 1, by omega⟩
 refine vc_seq (sr ?_)
 refine ym ?_
 refine vc_e (e_call [_, _] rfl rfl call86 rfl (ptake_any c wLocal r3 hr3 _ (hC.k1 st.chg) (by exact st.rs 3)) ?_)
 rintro _ w ⟨rfl, hP1, cw⟩
 replace st := St.prs (b := c.pb) st 3 rfl cw (.inl (.head _)) hP1
 dsimp only [setNth] at st
 refine et (vk4 0 2 4 16 ?_)
 refine vif ?_ ?_
 ·intro hc16
  try simp only [dn] at hc16
  simp only [hc16, if_true] at st
  have ht := tail_lt (isT_ne hc16)
  have hr3t := suf_tail hr3
  rw [hlo, contLo_step hc16] at hs
  have h40 := hr2.length_le
  refine kt (vk3 0 2 4 (vc_block ?_))
  refine kdr Tryz.mixed [Yt 0, Yt 2, Yt 3, Yt 4, Yt 1, Nt 5, Nt 6, Yt 7, Nt 8] 8 [.blk b4 (.cells [str t.text, .slice oq acc.length cq, .slice none 0 0, .int .i64 (t.at_ : Int)].toArray 69 (0, 0))] st ?_
  clear st; intro w st hS
  refine vk_takeU rfl rfl rfl rfl (fun _ => hS) (fun w => (by exact y_faz (k := 1) rfl underlying69 rfl rfl sizeOf23 rfl)) ?_
  iterate 2 refine km hS ?_
  refine vk_takeU rfl rfl rfl rfl (fun _ => hS) (fun w => y_mf [_] [] rfl rfl) ?_
  refine vk_take rfl rfl rfl rfl hS (fun w st => y_ld st 0 rfl isAgg23 rfl rfl) ?_
  refine vk_do rfl rfl (e_callp [_, _] rfl rfl call87 rfl (plist_any c hR 89 (declP c.e) call89 (hdecl c hR) (r3.length + 1) r3.tail (by rw [List.length_tail]; omega) hr3t _ (hC.k1 st.chg) (by exact st.rs 3)) (by rintro _ w' ⟨f, hf, rfl, ch⟩ a ha; exact And.intro ha (Or.inr ⟨_, rfl, f, by rw [hs, hf], rfl, st.chg.trans ch⟩)) ?_)
  rintro _ w ⟨l, r4, hx, hsfr4, hlnr4, hP1, cw, oD, cD, SD, rfl, hQ, hN⟩
  have hNSD := hN.le st.chg.size
  replace st := St.prsT (b := c.pb) st 3 rfl cw (.inl (.head _)) hP1 (holds_dc hQ) hN.2
  dsimp only [setNth] at st
  rw [hx] at hs; dsimp only at hs
  have hr4 := hsfr4.trans hr3t
  have hll := listP_len c.e _ declP_len _ _ _ _ (by assumption)
  refine vk_next st.dr ?_; intro hS
  refine vk_do rfl rfl (e_appr (bytes := 32) (len' := (acc ++ l).length) (ys := (acc ++ l).flatMap dcL) st 2 rfl rfl rfl rfl rfl (dcr_rd (st.res (i := 0) rfl).1) underlying23 Tryz.info63 rfl rfl rfl rfl rfl (dcs_len l) (dcs_one l) (by unfold maxLen; omega) (by omega) (by simp) (by simp) ?_)
  intro oaQ capQ w st; dsimp only [setNth] at st
  refine vk_next st.dr ?_; intro hS
  refine vk_takeU rfl rfl rfl rfl (fun _ => hS) (fun w => (by exact y_faz (k := 1) rfl underlying69 rfl rfl sizeOf23 rfl)) ?_
  refine vk_do rfl rfl (est st 1 sizeOf23 ?_)
  intro w st; dsimp only [setNth, wr] at st
  refine vk_late ?_
  refine vk_end ?_
  refine vq_block ?_
  refine vq_again (acc ++ l, r4, k, oaQ, capQ)  ⟨rfl, rfl, rfl, trivial⟩ (st.pick [1, 2, 3, 4] rfl (by decide)) ?_ ?_
  ·exact ⟨(hsfr4.trans (List.tail_suffix _)).trans hsf3, by simp; omega, by dsimp only; omega, by rw [hlo, contLo_step hc16, (by assumption : listP c.e (declP c.e) (r3.length + 1) r3.tail = _)]⟩
  dsimp only; omega
 intro hc16
 try simp only [dn] at hc16
 simp only [hc16, Bool.false_eq_true, if_false] at st
 rw [hlo, contLo_end hc16] at hs; dsimp only at hs
 refine vc_exit (vq_then_exit (vq_then_exit (vq_block_exit (vq_then (vk3 0 2 4 (sr ?_))))))
 refine ym ?_
 refine vc_e (e_callp [_, _] rfl rfl call147 rfl (prest_any c hR hg r3 hr3 _ (hC.k1 st.chg) (by exact st.rs 3)) (by rintro _ w' ⟨f, hf, rfl, ch⟩ a ha; exact And.intro ha (Or.inr ⟨_, rfl, f, by rw [hs, hf], rfl, st.chg.trans ch⟩)) ?_)
 rintro _ w ⟨l, r4, hx, hsfr4, hlnr4, hP1, cw, ob, cb, Sb, rfl, hQ, hN⟩
 have hNSb := hN.le st.chg.size
 replace st := St.prsT (b := c.pb) st 3 rfl cw (.inl (.head _)) hP1 (holds_sm hQ) hN.2
 dsimp only [setNth] at st
 rw [hx] at hs
 refine yfz 2 underlying69 sizeOf65 ?_
 refine vc_e (est st 1 sizeOf65 ?_)
 intro w st; dsimp only [setNth, wr] at st
 refine et (vk2 2 4 (sr ?_))
 refine yla st 1 [_, _, _, _] isAgg69 sizeOf69 ?_
 refine vc_e (ests st 3 [_, _, _, _] sizeOf69 ?_)
 intro w st; dsimp only [setNth, wr] at st
 refine et (vk1 2 (vc_ret ?_))
 refine vq_ret1 st (.inl rfl) results91 (by exact .cell 3 rfl rfl isAgg69 sizeOf69) ?_
 refine .inl ⟨_, rfl, ?_⟩
 have hown := st.ownNw (i := 2) rfl
 exact ⟨_, r4, hs, hsfr4.trans (hsf3.trans (hsfr2.trans hsfr1)), by have := hsf3.length_le; simp at hlnr2; omega, (by exact st.rs 4), st.chg, oq, ob, cq, cb, obk oq ++ Sb, rfl, ⟨oq, cq, ob, cb, obk oq, Sb, rfl, ⟨hown.1, rfl⟩, (st.res (i := 0) rfl).1, rfl⟩, hown.2.app hNSb (fun b hb => st.ne (i := 2) (j := 0) (by decide) rfl rfl b (by simpa [Res.at?, obk_own] using hb))⟩
end Go.Proofs.YtnmhlpnapgojjaaGreatDoor.Pq


namespace Go.Proofs.YtnmhlpnapgojjaaGreatDoor.Pq
open Go.RowKit Sx LexS ParS _root_.Go.Proofs.Tryz
/-- a program's value -/
def HP (w : World) (q : Pg) (v : Value) (w' : World) : Prop := ∃ os ol ot cs cl ct Sq, v = .agg (pgC q os ol ot cs cl ct).toArray ∧ PgS 42 67 63 69 w' q (pgC q os ol ot cs cl ct) Sq ∧ Nw w.heap.size Sq
/-- threads, so many having come -/
def contT (e n : Nat) (acc : List Th) (r : List Tok) : PR (List Th) := match threadsP e n r with
 | .error f => .error f
 | .ok (l, r') => .ok (acc ++ l, r')
theorem contT_nil (e n : Nat) (r : List Tok) : threadsP e n r = contT e n [] r := by unfold contT; cases threadsP e n r with | error f => rfl | ok p => rfl
theorem contT_end {e n : Nat} {acc : List Th} {r : List Tok} (h : isT wThread r = false) : contT e (n + 1) acc r = .ok (acc, r) := by
 simp only [contT, threadsP, if_neg (show ¬ isT wThread r = true by simp [h]), List.append_nil]
theorem contT_step {e n : Nat} {acc : List Th} {r : List Tok} (h : isT wThread r = true) : contT e (n + 1) acc r = match threadP e r.tail with
  | .error f => .error f
  | .ok (t, r') => contT e n (acc ++ [t]) r' := by
 simp only [contT, threadsP, if_pos h]
 cases threadP e r.tail with
 | error f => rfl
 | ok p =>
  simp only
  cases threadsP e n p.2 with
  | error f => rfl
  | ok q => simp
/-- a program, so much having come -/
def contPg (e n : Nat) (sh lk : List Dc) (r : List Tok) : Except Flt Pg := match progP e n r with
 | .error f => .error f
 | .ok p => .ok ⟨sh ++ p.shared, lk ++ p.locks, p.threads⟩
theorem contPg_nil (e n : Nat) (r : List Tok) : progP e n r = contPg e n [] [] r := by unfold contPg; cases progP e n r with | error f => rfl | ok p => rfl
theorem contPg_sh {e n : Nat} {sh lk : List Dc} {r : List Tok} (h : isT wShared r = true) : contPg e (n + 1) sh lk r = match listP e (initP e) (r.length + 1) r.tail with
  | .error f => .error f
  | .ok (l, r') => contPg e n (sh ++ l) lk r' := by
 simp only [contPg, progP, if_pos h]
 cases listP e (initP e) (r.length + 1) r.tail with
 | error f => rfl
 | ok p =>
  simp only
  cases progP e n p.2 with
  | error f => rfl
  | ok q => simp
theorem contPg_lk {e n : Nat} {sh lk : List Dc} {r : List Tok} (h0 : isT wShared r = false) (h : isT wLock r = true) : contPg e (n + 1) sh lk r = match listP e (declP e) (r.length + 1) r.tail with
  | .error f => .error f
  | .ok (l, r') => contPg e n sh (lk ++ l) r' := by
 simp only [contPg, progP, if_neg (show ¬ isT wShared r = true by simp [h0]), if_pos h]
 cases listP e (declP e) (r.length + 1) r.tail with
 | error f => rfl
 | ok p =>
  simp only
  cases progP e n p.2 with
  | error f => rfl
  | ok q => simp
theorem contPg_th {e n : Nat} {sh lk : List Dc} {r : List Tok} (h0 : isT wShared r = false) (h1 : isT wLock r = false) : contPg e (n + 1) sh lk r = match contT e (r.length + 1) [] r with
  | .error f => .error f
  | .ok (l, r') => if r'.length = 0 then .ok ⟨sh, lk, l⟩ else fail e 2 r' := by
 simp only [contPg, progP, if_neg (show ¬ isT wShared r = true by simp [h0]), if_neg (show ¬ isT wLock r = true by simp [h1])]
 rw [contT_nil]
 cases contT e (r.length + 1) [] r with
 | error f => rfl
 | ok p =>
  simp only
  by_cases hc : p.2.length = 0
  ·simp only [if_pos hc, List.append_nil]
  ·simp only [if_neg hc]; rfl
/-- what is left when a program's reader is done -/
def PResG (c : PCtx) (r : List Tok) (res : Except Flt Pg) (M : List Nat) (w : World) (v : Value) (w' : World) : Prop := ∃ q, res = .ok q ∧ Chg M w w' ∧ HP w q v w'

set_option maxHeartbeats 2000000 in
theorem pprog_any (c : PCtx) (hR : c.R = 75) (hg : c.g = 0) (r : List Tok) (hr : r <:+ c.ts) (w : World) (hC : PCok c w) (hP : PAt c r w) (n : Nat) (hn : r.length < n) : RetP Tryz.prog 37 [.pointer (some ⟨c.pb, 0, none⟩)] w
    (PResG c r (progP c.e n r) [c.pb] w) (PErr c (progP c.e n r) [c.pb] w) := by
 refine retp_of [_] func37 rfl ntmps37 rfl ?_
 obtain ⟨w0, rfl⟩ : ∃ w0, w0 = w := ⟨_, rfl⟩
 have hP' := hP
 dsimp only [PAt, pcell] at hP
 have st := St.of1 [c.pb] hP
 have h20 := hC.len
 have hl := suf_len hr
 have hs := contPg_nil c.e n r
 replace st := (st.ownNil 63 3).ownNil 63 3
 refine sr ?_
 refine vc_e (e_al (l := [_, _, _]) st rfl rfl zeroValue26 rfl ?_)
 intro b2 w hb2 st
 refine et (vk2 0 2 (sr ?_))
 refine vc_e (e_al (l := [_, _, _]) st rfl rfl zeroValue26 rfl ?_)
 intro b3 w hb3 st
 refine et (vk3 0 2 3 (vc_block ?_))
 refine vc_loop (w0 := w0) (M := [c.pb]) (fun (y : List Dc × List Dc × List Tok × Nat × Option Addr × Nat × Option Addr × Nat) => [(0, .pointer (some ⟨c.pb, 0, none⟩)), (2, .pointer (some ⟨b2, 0, none⟩)), (3, .pointer (some ⟨b3, 0, none⟩))]) (fun y => [.blk b3 (.cells [.slice y.2.2.2.2.1 y.1.length y.2.2.2.2.2.1, .slice y.2.2.2.2.2.2.1 y.2.1.length y.2.2.2.2.2.2.2, .slice none 0 0].toArray 26 (0, 0)), .own (.slice y.2.2.2.2.1 y.1.length y.2.2.2.2.2.1) 63 3 y.1.length (y.1.flatMap dcL), .own (.slice y.2.2.2.2.2.2.1 y.2.1.length y.2.2.2.2.2.2.2) 63 3 y.2.1.length (y.2.1.flatMap dcL), .blk b2 (.cells [.slice none 0 0, .slice none 0 0, .slice none 0 0].toArray 26 (0, 0)), .blk c.pb (.cells (pcell c y.2.2.1).toArray c.T (0, 0))]) (fun y _ => y.2.2.1 <:+ r ∧ y.2.2.1.length + y.1.length + y.2.1.length ≤ r.length ∧ y.2.2.1.length < y.2.2.2.1 ∧ progP c.e n r = contPg c.e y.2.2.2.1 y.1 y.2.1 y.2.2.1) (fun y => y.2.2.1.length) ([], [], r, n, none, 0, none, 0) ⟨rfl, rfl, rfl, trivial⟩ (st.pick [0, 2, 3, 1, 4] rfl (by decide)) ⟨List.suffix_refl _, by simp, hn, hs⟩ ?_
 clear st hs
 rintro ⟨sh, lk, r1, k, os, cs, ol, cl⟩ w ⟨hsf1, hl1, hk1, hs⟩ st
 dsimp only at hsf1 hl1 hk1 hs st
 have hr1 := hsf1.trans hr
 obtain ⟨k, rfl⟩ : ∃ j, k = j + 1 := ⟨k - 1, by omega⟩
 have h40 := hr.length_le
 refine vc_block (vc_block (sr ?_))
 refine ym ?_
 refine vc_e (e_call [_, _] rfl rfl call86 rfl (ptake_any c wShared r1 hr1 _ (hC.k1 st.chg) (by exact st.rs 4)) ?_)
 rintro _ w ⟨rfl, hP1, cw⟩
 replace st := St.prs (b := c.pb) st 4 rfl cw (.inl (.head _)) hP1
 dsimp only [setNth] at st
 refine ya ?_
 refine et (vk4 0 2 3 5 ?_)
 refine vif ?_ ?_
 ·intro hc5
  try simp only [dn] at hc5
  simp only [hc5, if_true] at st
  have ht := tail_lt (isT_ne hc5)
  have hr1t := suf_tail hr1
  rw [contPg_sh hc5] at hs
  refine kdr Tryz.mixed [Yt 0, Yt 2, Yt 3, Yt 4, Yt 1, Nt 5, Nt 6, Yt 7, Nt 8] 8 [.blk b3 (.cells [.slice os sh.length cs, .slice ol lk.length cl, .slice none 0 0].toArray 26 (0, 0))] st ?_
  clear st; intro w st hS
  refine vk_takeU rfl rfl rfl rfl (fun _ => hS) (fun w => y_fa0 rfl underlying26 rfl rfl sizeOf23 rfl) ?_
  iterate 2 refine km hS ?_
  refine vk_takeU rfl rfl rfl rfl (fun _ => hS) (fun w => y_mf [_] [] rfl rfl) ?_
  refine vk_take rfl rfl rfl rfl hS (fun w st => y_ld st 0 rfl isAgg23 rfl rfl) ?_
  refine vk_do rfl rfl (e_callp [_, _] rfl rfl call87 rfl (plist_any c hR 88 (initP c.e) call88 (hinit c hR) (r1.length + 1) r1.tail (by rw [List.length_tail]; omega) hr1t _ (hC.k1 st.chg) (by exact st.rs 4)) (by rintro _ w' ⟨f, hf, rfl, ch⟩ a ha; exact And.intro ha (Or.inr ⟨_, rfl, f, by rw [hs, hf], rfl, st.chg.trans ch⟩)) ?_)
  rintro _ w ⟨l, r2, hx, hsfr2, hlnr2, hP1, cw, oD, cD, SD, rfl, hQ, hN⟩
  have hNSD := hN.le st.chg.size
  replace st := St.prsT (b := c.pb) st 4 rfl cw (.inl (.head _)) hP1 (holds_dc hQ) hN.2
  dsimp only [setNth] at st
  rw [hx] at hs; dsimp only at hs
  have hr2 := hsfr2.trans hr1t
  have hll := listP_len c.e _ initP_len _ _ _ _ (by assumption)
  refine vk_next st.dr ?_; intro hS
  refine vk_do rfl rfl (e_appr (bytes := 32) (len' := (sh ++ l).length) (ys := (sh ++ l).flatMap dcL) st 2 rfl rfl rfl rfl rfl (dcr_rd (st.res (i := 0) rfl).1) underlying23 Tryz.info63 rfl rfl rfl rfl rfl (dcs_len l) (dcs_one l) (by unfold maxLen; omega) (by omega) (by simp) (by simp) ?_)
  intro oaQ capQ w st; dsimp only [setNth] at st
  refine vk_next st.dr ?_; intro hS
  refine vk_takeU rfl rfl rfl rfl (fun _ => hS) (fun w => y_fa0 rfl underlying26 rfl rfl sizeOf23 rfl) ?_
  refine vk_do rfl rfl (est st 1 sizeOf23 ?_)
  intro w st; dsimp only [setNth, wr] at st
  refine vk_late ?_
  refine vk_end ?_
  refine vq_block (vq_block ?_)
  refine vq_again (sh ++ l, lk, r2, k, oaQ, capQ, ol, cl)  ⟨rfl, rfl, rfl, trivial⟩ (st.pick [1, 2, 3, 4, 5] rfl (by decide)) ?_ ?_
  ·exact ⟨(hsfr2.trans (List.tail_suffix _)).trans hsf1, by simp; omega, by dsimp only; omega, hs⟩
  dsimp only; omega
 intro hc5
 try simp only [dn] at hc5
 simp only [hc5, Bool.false_eq_true, if_false] at st
 refine sr ?_
 refine ym ?_
 refine vc_e (e_call [_, _] rfl rfl call86 rfl (ptake_any c wLock r1 hr1 _ (hC.k1 st.chg) (by exact st.rs 4)) ?_)
 rintro _ w ⟨rfl, hP1, cw⟩
 replace st := St.prs (b := c.pb) st 4 rfl cw (.inl (.head _)) hP1
 dsimp only [setNth] at st
 refine ya ?_
 refine et (vk4 0 2 3 16 ?_)
 refine vif ?_ ?_
 ·intro hc16
  try simp only [dn] at hc16
  simp only [hc16, if_true] at st
  have ht := tail_lt (isT_ne hc16)
  have hr1t := suf_tail hr1
  rw [contPg_lk hc5 hc16] at hs
  refine kdr Tryz.mixed [Yt 0, Yt 2, Yt 3, Yt 4, Yt 1, Nt 5, Nt 6, Yt 7, Nt 8] 8 [.blk b3 (.cells [.slice os sh.length cs, .slice ol lk.length cl, .slice none 0 0].toArray 26 (0, 0))] st ?_
  clear st; intro w st hS
  refine vk_takeU rfl rfl rfl rfl (fun _ => hS) (fun w => (by exact y_faz (k := 1) rfl underlying26 rfl rfl sizeOf23 rfl)) ?_
  iterate 2 refine km hS ?_
  refine vk_takeU rfl rfl rfl rfl (fun _ => hS) (fun w => y_mf [_] [] rfl rfl) ?_
  refine vk_take rfl rfl rfl rfl hS (fun w st => y_ld st 0 rfl isAgg23 rfl rfl) ?_
  refine vk_do rfl rfl (e_callp [_, _] rfl rfl call87 rfl (plist_any c hR 89 (declP c.e) call89 (hdecl c hR) (r1.length + 1) r1.tail (by rw [List.length_tail]; omega) hr1t _ (hC.k1 st.chg) (by exact st.rs 4)) (by rintro _ w' ⟨f, hf, rfl, ch⟩ a ha; exact And.intro ha (Or.inr ⟨_, rfl, f, by rw [hs, hf], rfl, st.chg.trans ch⟩)) ?_)
  rintro _ w ⟨l, r2, hx, hsfr2, hlnr2, hP1, cw, oD, cD, SD, rfl, hQ, hN⟩
  have hNSD := hN.le st.chg.size
  replace st := St.prsT (b := c.pb) st 4 rfl cw (.inl (.head _)) hP1 (holds_dc hQ) hN.2
  dsimp only [setNth] at st
  rw [hx] at hs; dsimp only at hs
  have hr2 := hsfr2.trans hr1t
  have hll := listP_len c.e _ declP_len _ _ _ _ (by assumption)
  refine vk_next st.dr ?_; intro hS
  refine vk_do rfl rfl (e_appr (bytes := 32) (len' := (lk ++ l).length) (ys := (lk ++ l).flatMap dcL) st 3 rfl rfl rfl rfl rfl (dcr_rd (st.res (i := 0) rfl).1) underlying23 Tryz.info63 rfl rfl rfl rfl rfl (dcs_len l) (dcs_one l) (by unfold maxLen; omega) (by omega) (by simp) (by simp) ?_)
  intro oaQ capQ w st; dsimp only [setNth] at st
  refine vk_next st.dr ?_; intro hS
  refine vk_takeU rfl rfl rfl rfl (fun _ => hS) (fun w => (by exact y_faz (k := 1) rfl underlying26 rfl rfl sizeOf23 rfl)) ?_
  refine vk_do rfl rfl (est st 1 sizeOf23 ?_)
  intro w st; dsimp only [setNth, wr] at st
  refine vk_late ?_
  refine vk_end ?_
  refine vq_block (vq_block ?_)
  refine vq_again (sh, lk ++ l, r2, k, os, cs, oaQ, capQ)  ⟨rfl, rfl, rfl, trivial⟩ (st.pick [1, 2, 3, 4, 5] rfl (by decide)) ?_ ?_
  ·exact ⟨(hsfr2.trans (List.tail_suffix _)).trans hsf1, by simp; omega, by dsimp only; omega, hs⟩
  dsimp only; omega
 intro hc16
 try simp only [dn] at hc16
 simp only [hc16, Bool.false_eq_true, if_false] at st
 rw [contPg_th hc5 hc16] at hs
 refine sr ?_
 refine ym ?_
 refine vc_e (e_call [_, _] rfl rfl call90 rfl (pis_any c wThread r1 hr1 _ (hC.k1 st.chg) (by exact st.rs 4)) ?_)
 rintro _ w ⟨rfl, cw⟩
 replace st := st.call0 cw
 refine ya ?_
 refine et (vk4 0 2 3 27 ?_)
 refine vif ?_ ?_
 ·intro hc27
  try simp only [dn] at hc27
  replace st := St.pushR (r := .tree [] (fun w => ThSs 42 67 63 w [] [] [])) st (Chg.refl _ _) (holds_thss (by simp [ThSs])) (by simp [Res.at?])
  replace st := st.ownNil 69 4
  refine vc_seq (vc_block ?_)
  refine vc_loop (w0 := w0) (M := [c.pb]) (fun (z : List Th × List Tok × Nat × Option Addr × Nat × List Value × List Nat) => [(0, .pointer (some ⟨c.pb, 0, none⟩)), (2, .pointer (some ⟨b2, 0, none⟩)), (3, .pointer (some ⟨b3, 0, none⟩))]) (fun z => [.blk b3 (.cells [.slice os sh.length cs, .slice ol lk.length cl, .slice z.2.2.2.1 z.1.length z.2.2.2.2.1].toArray 26 (0, 0)), .own (.slice os sh.length cs) 63 3 sh.length (sh.flatMap dcL), .own (.slice ol lk.length cl) 63 3 lk.length (lk.flatMap dcL), .own (.slice z.2.2.2.1 z.1.length z.2.2.2.2.1) 69 4 z.1.length z.2.2.2.2.2.1, .tree z.2.2.2.2.2.2 (fun w => ThSs 42 67 63 w z.1 z.2.2.2.2.2.1 z.2.2.2.2.2.2), .blk b2 (.cells [.slice none 0 0, .slice none 0 0, .slice none 0 0].toArray 26 (0, 0)), .blk c.pb (.cells (pcell c z.2.1).toArray c.T (0, 0))]) (fun z _ => z.2.1 <:+ r1 ∧ z.2.1.length + z.1.length ≤ r1.length ∧ z.2.1.length < z.2.2.1 ∧ Nw w0.heap.size z.2.2.2.2.2.2 ∧ contT c.e (r1.length + 1) [] r1 = contT c.e z.2.2.1 z.1 z.2.1) (fun z => z.2.1.length) ([], r1, r1.length + 1, none, 0, [], []) ⟨rfl, rfl, rfl, trivial⟩ (st.pick [2, 3, 4, 0, 1, 5, 6] rfl (by decide)) ⟨List.suffix_refl _, by simp, by simp, Nw.nil, rfl⟩ ?_
  clear st
  rintro ⟨acc, r2, j, ot, ct, xs, Sq⟩ w ⟨hsf2, hl2, hj2, hSq, hlo⟩ st
  dsimp only at hsf2 hl2 hj2 hSq hlo st
  have hr2 := hsf2.trans hr1
  obtain ⟨j, rfl⟩ : ∃ i, j = i + 1 := ⟨j - 1, by omega⟩
  refine vc_seq (sr ?_)
  refine ym ?_
  refine vc_e (e_call [_, _] rfl rfl call86 rfl (ptake_any c wThread r2 hr2 _ (hC.k1 st.chg) (by exact st.rs 6)) ?_)
  rintro _ w ⟨rfl, hP1, cw⟩
  replace st := St.prs (b := c.pb) st 6 rfl cw (.inl (.head _)) hP1
  dsimp only [setNth] at st
  refine et (vk4 0 2 3 31 ?_)
  refine vif ?_ ?_
  ·intro hc31
   try simp only [dn] at hc31
   simp only [hc31, if_true] at st
   have ht := tail_lt (isT_ne hc31)
   have hr2t := suf_tail hr2
   rw [hlo, contT_step hc31] at hs
   refine kt (vk3 0 2 3 (vc_block ?_))
   refine kdr Tryz.mixed [Yt 0, Yt 2, Yt 1, Nt 3, Nt 4, Nt 5, Yt 6, Nt 7] 7 [.blk b3 (.cells [.slice os sh.length cs, .slice ol lk.length cl, .slice ot acc.length ct].toArray 26 (0, 0))] st ?_
   clear st; intro w st hS
   refine vk_takeU rfl rfl rfl rfl (fun _ => hS) (fun w => (by exact y_faz (k := 2) rfl underlying26 rfl rfl sizeOf24 rfl)) ?_
   refine km hS ?_
   refine vk_take rfl rfl rfl rfl hS (fun w st => y_ld st 0 rfl isAgg24 rfl rfl) ?_
   refine vk_do rfl rfl (e_callp [_] rfl rfl call91 rfl (pthread_any c hR hg r2.tail hr2t _ (hC.k1 st.chg) (by exact st.rs 6)) (by rintro _ w' ⟨f, hf, rfl, ch⟩ a ha; exact And.intro ha (Or.inr ⟨_, rfl, f, by rw [hs, hf], rfl, st.chg.trans ch⟩)) ?_)
   rintro _ w ⟨t, r3, hx, hsfr3, hlnr3, hP1, cw, tl, tb, cll, cbb, St_, rfl, hQ, hN⟩
   have hNSt := hN.le st.chg.size
   replace st := St.prsT (b := c.pb) st 6 rfl cw (.inl (.head _)) hP1 (holds_ths hQ) hN.2
   dsimp only [setNth] at st
   have hx3 := hx
   refine vk_next st.dr ?_; intro hS
   refine vk_do rfl rfl (e_bs1 (l := [_, _, _, _]) st rfl rfl rfl rfl underlying24 sizeOf69 rfl rfl rfl zeroValue69 ?_)
   intro b36 w hb36 st
   refine vk_next st.dr ?_; intro hS
   refine vk_do rfl rfl (e_app (bytes := 72) st 5 0 rfl rfl rfl rfl rfl rfl underlying24 Tryz.info69 rfl rfl rfl rfl rfl (by simp) rfl rfl (by unfold maxLen; omega) (by omega) ?_)
   intro oaQ capQ w st; dsimp only [setNth] at st
   have hT2 := ThSs.snoc (st.res (i := 6) rfl).1 (st.res (i := 1) rfl).1
   have hN2 := hSq.app hNSt (st.ne (i := 6) (j := 1) (by decide) rfl rfl)
   replace st := ((st.pick [6, 1, 2, 3, 4, 5, 7, 8] rfl (by decide)).join (q := .tree (Sq ++ St_) fun w => ThSs 42 67 63 w (acc ++ [t]) (xs ++ thC t tl tb cll cbb) (Sq ++ St_)) (fun k hk => List.mem_append.1 hk) (holds_thss hT2)).pick [1, 2, 3, 4, 0, 5, 6] rfl (by decide)
   refine vk_next st.dr ?_; intro hS
   refine vk_takeU rfl rfl rfl rfl (fun _ => hS) (fun w => (by exact y_faz (k := 2) rfl underlying26 rfl rfl sizeOf24 rfl)) ?_
   refine vk_do rfl rfl (est st 0 sizeOf24 ?_)
   intro w st; dsimp only [setNth, wr] at st
   refine vk_late ?_
   refine vk_end ?_
   refine vq_block ?_
   refine vq_again (acc ++ [t], r3, j, oaQ, capQ, xs ++ thC t tl tb cll cbb, Sq ++ St_)  ⟨rfl, rfl, rfl, trivial⟩ (by simpa using st) ?_ ?_
   ·exact ⟨(hsfr3.trans (List.tail_suffix _)).trans hsf2, by simp; omega, by dsimp only; omega, hN2, by rw [hlo, contT_step hc31, hx3]⟩
   dsimp only; omega
  intro hc31
  try simp only [dn] at hc31
  simp only [hc31, Bool.false_eq_true, if_false] at st
  rw [hlo, contT_end hc31] at hs; dsimp only at hs
  refine vc_exit (vq_then_exit (vq_then_exit (vq_block_exit (vq_then (vk3 0 2 3 (vc_seq (vc_seq ?_)))))))
  refine vdr0 Tryz.mixed [Yt 0, Yt 1, Yt 2, Yt 3, Yt 4, Yt 5, Yt 6, Yt 7, Yt 8, Yt 9] st ?_
  clear st; intro w st hS
  refine pm hS ?_
  refine pnk hS ?_
  refine pfz hS 1 underlying91 sizeOf3 ?_
  refine pld hS 6 isAgg3 ?_
  refine pm hS ?_
  refine pnk hS ?_
  refine pf0 hS underlying91 sizeOf89 ?_
  refine pld hS 6 isAgg89 ?_
  refine vp_take rfl rfl rfl hS (fun w st => y_lensl rfl underlying89) ?_
  refine vp_take rfl rfl rfl hS (fun w st => y_lss rfl rfl) ?_
  refine vp_end (vq_then (vk4 0 2 3 48 ?_))
  refine vif ?_ ?_
  ·intro hc48
   try simp only [dn] at hc48
   have h0 : ¬ r2.length = 0 := by omega
   rw [if_neg h0] at hs
   refine vc_region ?_
   refine ym ?_
   refine vc_e (e_callp [_, _] rfl rfl call50 rfl (pfail_any c 2 r2 hr2 _ (hC.k1 st.chg) (by exact st.rs 6) hR) (by rintro _ w' ⟨rfl, ch⟩ a ha; exact And.intro ha (Or.inr ⟨_, rfl, (atT c.e r2, 2), by rw [hs]; rfl, rfl, st.chg.trans ch.of_nil⟩)) (fun _ _ h => h.elim))
  intro hc48
  try simp only [dn] at hc48
  have h41 := hr2.length_le
  have h0 : r2.length = 0 := by omega
  rw [if_pos h0] at hs
  refine kt (vk2 2 3 (sr ?_))
  refine yla st 0 [_, _, _] isAgg26 sizeOf26 ?_
  refine vc_e (ests st 5 [_, _, _] sizeOf26 ?_)
  intro w st; dsimp only [setNth, wr] at st
  refine et (vk1 2 (vc_ret (vq_block_ret (vq_block_ret (vq_then_ret (vq_block_ret ?_))))))
  refine vq_ret1 st (.inl rfl) results37 (by exact .cell 5 rfl rfl isAgg26 sizeOf26) ?_
  refine .inl ⟨_, rfl, ?_⟩
  have o1 := st.ownNw (i := 1) rfl
  have o2 := st.ownNw (i := 2) rfl
  have o3 := st.ownNw (i := 3) rfl
  have d12 : ∀ k ∈ obk os, k ∉ obk ol := fun k hk hk' => st.ne (i := 1) (j := 2) (by decide) rfl rfl k (by simpa [Res.at?, obk_own] using hk) (by simpa [Res.at?, obk_own] using hk')
  have d13 : ∀ k ∈ obk os, k ∉ obk ot := fun k hk hk' => st.ne (i := 1) (j := 3) (by decide) rfl rfl k (by simpa [Res.at?, obk_own] using hk) (by simpa [Res.at?, obk_own] using hk')
  have d23 : ∀ k ∈ obk ol, k ∉ obk ot := fun k hk hk' => st.ne (i := 2) (j := 3) (by decide) rfl rfl k (by simpa [Res.at?, obk_own] using hk) (by simpa [Res.at?, obk_own] using hk')
  have d14 : ∀ k ∈ obk os, k ∉ Sq := fun k hk => st.ne (i := 1) (j := 4) (by decide) rfl rfl k (by simpa [Res.at?, obk_own] using hk)
  have d24 : ∀ k ∈ obk ol, k ∉ Sq := fun k hk => st.ne (i := 2) (j := 4) (by decide) rfl rfl k (by simpa [Res.at?, obk_own] using hk)
  have d34 : ∀ k ∈ obk ot, k ∉ Sq := fun k hk => st.ne (i := 3) (j := 4) (by decide) rfl rfl k (by simpa [Res.at?, obk_own] using hk)
  exact ⟨⟨sh, lk, acc⟩, hs, st.chg, os, ol, ot, cs, cl, ct, obk os ++ (obk ol ++ (obk ot ++ Sq)), rfl, ⟨os, cs, ol, cl, ot, ct, obk os, obk ol, obk ot ++ Sq, rfl, ⟨o1.1, rfl⟩, ⟨o2.1, rfl⟩, ⟨xs, Sq, o3.1, rfl, (st.res (i := 4) rfl).1⟩, rfl⟩,
    o1.2.app (o2.2.app (o3.2.app hSq d34) (fun b hb hb' => (List.mem_append.1 hb').elim (d23 b hb) (d24 b hb))) (fun b hb hb' => (List.mem_append.1 hb').elim (d12 b hb) fun h => (List.mem_append.1 h).elim (d13 b hb) (d14 b hb))⟩
 intro hc27
 try simp only [dn] at hc27
 rw [contT_end hc27] at hs; dsimp only at hs
 refine vc_seq ?_
 refine vdr0 Tryz.mixed [Yt 0, Yt 1, Yt 2, Yt 3, Yt 4, Yt 5, Yt 6, Yt 7, Yt 8, Yt 9, Yt 10] st ?_
 clear st; intro w st hS
 refine pm hS ?_
 refine pnk hS ?_
 refine pfz hS 1 underlying91 sizeOf3 ?_
 refine pld hS 4 isAgg3 ?_
 refine pm hS ?_
 refine pnk hS ?_
 refine pf0 hS underlying91 sizeOf89 ?_
 refine pld hS 4 isAgg89 ?_
 refine vp_take rfl rfl rfl hS (fun w st => y_lensl rfl underlying89) ?_
 refine vp_take rfl rfl rfl hS (fun w st => y_lss rfl rfl) ?_
 refine vp_take rfl rfl rfl hS (fun w st => y_as rfl) ?_
 refine vp_end (vq_then (vk4 0 2 3 52 ?_))
 refine vif ?_ ?_
 ·intro hc52
  try simp only [dn] at hc52
  have h0 : ¬ r1.length = 0 := by omega
  rw [if_neg h0] at hs
  refine vc_region ?_
  refine ym ?_
  refine vc_e (e_callp [_, _] rfl rfl call50 rfl (pfail_any c 2 r1 hr1 _ (hC.k1 st.chg) (by exact st.rs 4) hR) (by rintro _ w' ⟨rfl, ch⟩ a ha; exact And.intro ha (Or.inr ⟨_, rfl, (atT c.e r1, 2), by rw [hs]; rfl, rfl, st.chg.trans ch.of_nil⟩)) (fun _ _ h => h.elim))
 intro hc52
 try simp only [dn] at hc52
 have h41 := hr1.length_le
 have h0 : r1.length = 0 := by omega
 rw [if_pos h0] at hs
 refine sr ?_
 refine yla st 0 [_, _, _] isAgg26 sizeOf26 ?_
 refine vc_e (ests st 3 [_, _, _] sizeOf26 ?_)
 intro w st; dsimp only [setNth, wr] at st
 refine et (vk1 2 (vc_ret (vq_block_ret (vq_block_ret (vq_then_ret (vq_block_ret ?_))))))
 refine vq_ret1 st (.inl rfl) results37 (by exact .cell 3 rfl rfl isAgg26 sizeOf26) ?_
 refine .inl ⟨_, rfl, ?_⟩
 have o1 := st.ownNw (i := 1) rfl
 have o2 := st.ownNw (i := 2) rfl
 have d12 : ∀ k ∈ obk os, k ∉ obk ol := fun k hk hk' => st.ne (i := 1) (j := 2) (by decide) rfl rfl k (by simpa [Res.at?, obk_own] using hk) (by simpa [Res.at?, obk_own] using hk')
 exact ⟨⟨sh, lk, []⟩, hs, st.chg, os, ol, none, cs, cl, 0, obk os ++ (obk ol ++ []), rfl, ⟨os, cs, ol, cl, none, 0, obk os, obk ol, [], rfl, ⟨o1.1, rfl⟩, ⟨o2.1, rfl⟩, ⟨[], [], World.ownsRow_nil _ _ _ _, rfl, rfl, rfl⟩, rfl⟩,
   by rw [List.append_nil]; exact o1.2.app o2.2 d12⟩
end Go.Proofs.YtnmhlpnapgojjaaGreatDoor.Pq

