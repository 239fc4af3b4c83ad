/- A part of the proof: contracts of functions and plain laws; each theorem says its own conditions. -/
import Derived.Test.YtggnfanphcaamaaGreatDoorParseOwnK1
import Derived.Test.YtggnfanphcaamaaGreatDoorParseOwnK5
import Derived.Test.YtggnfanphcaamaaGreatDoorParseOwnK3
import Derived.Test.YtggnfanphcaamaaGreatDoorParseOwnK4
set_option linter.unusedVariables false
set_option linter.unusedSimpArgs false
namespace Go.Proofs.YtggnfanphcaamaaGreatDoor
open Go.RowKit Sx LexS ParS _root_.Go.Proofs.Tryz
/-- a program's value -/
def HP (w : World) (q : Pg) (v : Value) (w' : World) : Prop := ∃ os ol ot cs cl ct Sq, v = .agg (pgC q os ol ot cs cl ct).toArray ∧ PgS 60 56 52 50 w' q (pgC q os ol ot cs cl ct) Sq ∧ Nw w.heap.size Sq
/-- threads, so many having come -/
def contT (e n : Nat) (acc : List Th) (r : List Tok) : PR (List Th) := match threadsP e n r with
  | .error f => .error f
  | .ok (l, r') => .ok (acc ++ l, r')
theorem contT_nil (e n : Nat) (r : List Tok) : threadsP e n r = contT e n [] r := by unfold contT; cases threadsP e n r with | error f => rfl | ok p => rfl
theorem contT_end {e n : Nat} {acc : List Th} {r : List Tok} (h : isT wThread r = false) : contT e (n + 1) acc r = .ok (acc, r) := by
  simp only [contT, threadsP, if_neg (show ¬ isT wThread r = true by simp [h]), List.append_nil]
theorem contT_step {e n : Nat} {acc : List Th} {r : List Tok} (h : isT wThread r = true) : contT e (n + 1) acc r = match threadP e r.tail with
    | .error f => .error f
    | .ok (t, r') => contT e n (acc ++ [t]) r' := by
  simp only [contT, threadsP, if_pos h]
  cases threadP e r.tail with
  | error f => rfl
  | ok p =>
    simp only
    cases threadsP e n p.2 with
    | error f => rfl
    | ok q => simp
/-- a program, so much having come -/
def contPg (e n : Nat) (sh lk : List Dc) (r : List Tok) : Except Flt Pg := match progP e n r with
  | .error f => .error f
  | .ok p => .ok ⟨sh ++ p.shared, lk ++ p.locks, p.threads⟩
theorem contPg_nil (e n : Nat) (r : List Tok) : progP e n r = contPg e n [] [] r := by unfold contPg; cases progP e n r with | error f => rfl | ok p => rfl
theorem contPg_sh {e n : Nat} {sh lk : List Dc} {r : List Tok} (h : isT wShared r = true) : contPg e (n + 1) sh lk r = match listP e (initP e) (r.length + 1) r.tail with
    | .error f => .error f
    | .ok (l, r') => contPg e n (sh ++ l) lk r' := by
  simp only [contPg, progP, if_pos h]
  cases listP e (initP e) (r.length + 1) r.tail with
  | error f => rfl
  | ok p =>
    simp only
    cases progP e n p.2 with
    | error f => rfl
    | ok q => simp
theorem contPg_lk {e n : Nat} {sh lk : List Dc} {r : List Tok} (h0 : isT wShared r = false) (h : isT wLock r = true) : contPg e (n + 1) sh lk r = match listP e (declP e) (r.length + 1) r.tail with
    | .error f => .error f
    | .ok (l, r') => contPg e n sh (lk ++ l) r' := by
  simp only [contPg, progP, if_neg (show ¬ isT wShared r = true by simp [h0]), if_pos h]
  cases listP e (declP e) (r.length + 1) r.tail with
  | error f => rfl
  | ok p =>
    simp only
    cases progP e n p.2 with
    | error f => rfl
    | ok q => simp
theorem contPg_th {e n : Nat} {sh lk : List Dc} {r : List Tok} (h0 : isT wShared r = false) (h1 : isT wLock r = false) : contPg e (n + 1) sh lk r = match contT e (r.length + 1) [] r with
    | .error f => .error f
    | .ok (l, r') => if r'.length = 0 then .ok ⟨sh, lk, l⟩ else fail e 2 r' := by
  simp only [contPg, progP, if_neg (show ¬ isT wShared r = true by simp [h0]), if_neg (show ¬ isT wLock r = true by simp [h1])]
  rw [contT_nil]
  cases contT e (r.length + 1) [] r with
  | error f => rfl
  | ok p =>
    simp only
    by_cases hc : p.2.length = 0
    · simp only [if_pos hc, List.append_nil]
    · simp only [if_neg hc]; rfl
/-- what is left when a program's reader is done -/
def PResG (c : PCtx) (r : List Tok) (res : Except Flt Pg) (M : List Nat) (w : World) (v : Value) (w' : World) : Prop := ∃ q, res = .ok q ∧ Chg M w w' ∧ HP w q v w'

set_option maxHeartbeats 2000000 in
theorem pprog_any (c : PCtx) (hR : c.R = 40) (hg : c.g = 1) (r : List Tok) (hr : r <:+ c.ts) (w : World) (hC : PCok c w) (hP : PAt c r w) (n : Nat) (hn : r.length < n) : RetP Tryz.prog 13 [.pointer (some ⟨c.pb, 0, none⟩)] w
    (PResG c r (progP c.e n r) [c.pb] w) (PErr c (progP c.e n r) [c.pb] w) := by
  refine retp_of [_] func13 rfl ntmps13 rfl ?_
  obtain ⟨w0, rfl⟩ : ∃ w0, w0 = w := ⟨_, rfl⟩
  have hP' := hP
  dsimp only [PAt, pcell] at hP
  have st := St.of1 [c.pb] hP
  have h20 := hC.len
  have hl := suf_len hr
  have hs := contPg_nil c.e n r
  replace st := (st.ownNil 52 3).ownNil 52 3
  refine sr ?_
  refine vc_e (e_al (l := [_, _, _]) st rfl rfl zeroValue25 rfl ?_)
  intro b2 w hb2 st
  refine et (vk2 0 2 (sr ?_))
  refine vc_e (e_al (l := [_, _, _]) st rfl rfl zeroValue25 rfl ?_)
  intro b3 w hb3 st
  refine et (vk3 0 2 3 (vc_block ?_))
  refine vc_loop (w0 := w0) (M := [c.pb]) (fun (y : List Dc × List Dc × List Tok × Nat × Option Addr × Nat × Option Addr × Nat) => [(0, .pointer (some ⟨c.pb, 0, none⟩)), (2, .pointer (some ⟨b2, 0, none⟩)), (3, .pointer (some ⟨b3, 0, none⟩))]) (fun y => [.blk b3 (.cells [.slice y.2.2.2.2.1 y.1.length y.2.2.2.2.2.1, .slice y.2.2.2.2.2.2.1 y.2.1.length y.2.2.2.2.2.2.2, .slice none 0 0].toArray 25 (0, 0)), .own (.slice y.2.2.2.2.1 y.1.length y.2.2.2.2.2.1) 52 3 y.1.length (y.1.flatMap dcL), .own (.slice y.2.2.2.2.2.2.1 y.2.1.length y.2.2.2.2.2.2.2) 52 3 y.2.1.length (y.2.1.flatMap dcL), .blk b2 (.cells [.slice none 0 0, .slice none 0 0, .slice none 0 0].toArray 25 (0, 0)), .blk c.pb (.cells (pcell c y.2.2.1).toArray c.T (0, 0))]) (fun y _ => y.2.2.1 <:+ r ∧ y.2.2.1.length + y.1.length + y.2.1.length ≤ r.length ∧ y.2.2.1.length < y.2.2.2.1 ∧ progP c.e n r = contPg c.e y.2.2.2.1 y.1 y.2.1 y.2.2.1) (fun y => y.2.2.1.length) ([], [], r, n, none, 0, none, 0) ⟨rfl, rfl, rfl, trivial⟩ (st.pick [0, 2, 3, 1, 4] rfl (by decide)) ⟨List.suffix_refl _, by simp, hn, hs⟩ ?_
  clear st hs
  rintro ⟨sh, lk, r1, k, os, cs, ol, cl⟩ w ⟨hsf1, hl1, hk1, hs⟩ st
  dsimp only at hsf1 hl1 hk1 hs st
  have hr1 := hsf1.trans hr
  obtain ⟨k, rfl⟩ : ∃ j, k = j + 1 := ⟨k - 1, by omega⟩
  have h40 := hr.length_le
  refine vc_block (vc_block (sr ?_))
  refine ym ?_
  refine vc_e (e_call [_, _] rfl rfl call23 rfl (ptake_any c wShared r1 hr1 _ (hC.k1 st.chg) (by exact st.res (i := 4) rfl)) ?_)
  rintro _ w ⟨rfl, hP1, cw⟩
  replace st := St.prs (b := c.pb) st 4 rfl cw (.inl (.head _)) hP1
  dsimp only [setNth] at st
  refine ya ?_
  refine et (vk4 0 2 3 5 ?_)
  refine vif ?_ ?_
  ·intro hc5
   try simp only [dn] at hc5
   simp only [hc5, if_true] at st
   have ht := tail_lt (isT_ne hc5)
   have hr1t := suf_tail hr1
   rw [contPg_sh hc5] at hs
   refine vk_draw Tryz.mixed [(0, true), (2, true), (3, true), (4, true), (1, true), (5, false), (6, false), (7, true), (8, false)] 8 (fun w => St _ _ [.blk b3 (.cells [.slice os sh.length cs, .slice ol lk.length cl, .slice none 0 0].toArray 25 (0, 0))] w) st.dr (by kernel_rfl) (by repeat (first | exact okQ_noPan | exact okQ_body | exact okQ_bodyS | refine okQ_then ?_ | refine okQ_block ?_)) rfl (by kernel_rfl) rfl ?_
   intro w cd; replace st := st.call0 cd; clear cd
   have hS : St _ _ [.blk b3 (.cells [.slice os sh.length cs, .slice ol lk.length cl, .slice none 0 0].toArray 25 (0, 0))] w := st.dr
   refine vk_takeU rfl rfl rfl rfl (fun _ => hS) (fun w => y_fa0 rfl underlying25 rfl rfl sizeOf22 rfl) ?_
   iterate 2 refine km hS ?_
   refine vk_takeU rfl rfl rfl rfl (fun _ => hS) (fun w => y_mf [_] [] rfl rfl) ?_
   refine vk_take rfl rfl rfl rfl hS (fun w st => y_ld st 0 rfl isAgg22 rfl rfl) ?_
   refine vk_do rfl rfl (e_callp [_, _] rfl rfl call24 rfl (plist_any c hR 25 (initP c.e) call25 (hinit c hR) (r1.length + 1) r1.tail (by rw [List.length_tail]; omega) hr1t _ (hC.k1 st.chg) (by exact st.res (i := 4) rfl)) (by rintro _ w' ⟨f, hf, rfl, ch⟩ a ha; exact And.intro ha (Or.inr ⟨_, rfl, f, by rw [hs, hf], rfl, st.chg.trans ch⟩)) ?_)
   rintro _ w ⟨l, r2, hx, hsfr2, hlnr2, hP1, cw, oD, cD, SD, rfl, hQ, hN⟩
   have hNSD := hN.le st.chg.size
   replace st := St.prsT (b := c.pb) st 4 rfl cw (.inl (.head _)) hP1 (holds_dc hQ) hN.2
   dsimp only [setNth] at st
   rw [hx] at hs; dsimp only at hs
   have hr2 := hsfr2.trans hr1t
   have hll := listP_len c.e _ initP_len _ _ _ _ (by assumption)
   refine vk_next st.dr ?_; intro hS
   refine vk_do rfl rfl (e_appr (bytes := 32) (len' := (sh ++ l).length) (ys := (sh ++ l).flatMap dcL) st 2 rfl rfl rfl rfl rfl (dcr_rd (st.res (i := 0) rfl).1) underlying22 Tryz.info52 rfl rfl rfl rfl rfl (dcs_len l) (dcs_one l) (by unfold maxLen; omega) (by omega) (by simp) (by simp) ?_)
   intro oaQ capQ w st; dsimp only [setNth] at st
   refine vk_next st.dr ?_; intro hS
   refine vk_takeU rfl rfl rfl rfl (fun _ => hS) (fun w => y_fa0 rfl underlying25 rfl rfl sizeOf22 rfl) ?_
   refine vk_do rfl rfl (e_st st 1 rfl rfl rfl rfl sizeOf22 rfl rfl (by (right; assumption)) ?_)
   intro w st; dsimp only [setNth, wr] at st
   refine vk_late ?_
   refine vk_end ?_
   refine vq_block (vq_block ?_)
   refine vq_again (sh ++ l, lk, r2, k, oaQ, capQ, ol, cl)  ⟨rfl, rfl, rfl, trivial⟩ (st.pick [1, 2, 3, 4, 5] rfl (by decide)) ?_ ?_
   ·exact ⟨(hsfr2.trans (List.tail_suffix _)).trans hsf1, by simp; omega, by dsimp only; omega, hs⟩
   dsimp only; omega
  intro hc5
  try simp only [dn] at hc5
  simp only [hc5, Bool.false_eq_true, if_false] at st
  refine sr ?_
  refine ym ?_
  refine vc_e (e_call [_, _] rfl rfl call23 rfl (ptake_any c wLock r1 hr1 _ (hC.k1 st.chg) (by exact st.res (i := 4) rfl)) ?_)
  rintro _ w ⟨rfl, hP1, cw⟩
  replace st := St.prs (b := c.pb) st 4 rfl cw (.inl (.head _)) hP1
  dsimp only [setNth] at st
  refine ya ?_
  refine et (vk4 0 2 3 16 ?_)
  refine vif ?_ ?_
  ·intro hc16
   try simp only [dn] at hc16
   simp only [hc16, if_true] at st
   have ht := tail_lt (isT_ne hc16)
   have hr1t := suf_tail hr1
   rw [contPg_lk hc5 hc16] at hs
   refine vk_draw Tryz.mixed [(0, true), (2, true), (3, true), (4, true), (1, true), (5, false), (6, false), (7, true), (8, false)] 8 (fun w => St _ _ [.blk b3 (.cells [.slice os sh.length cs, .slice ol lk.length cl, .slice none 0 0].toArray 25 (0, 0))] w) st.dr (by kernel_rfl) (by repeat (first | exact okQ_noPan | exact okQ_body | exact okQ_bodyS | refine okQ_then ?_ | refine okQ_block ?_)) rfl (by kernel_rfl) rfl ?_
   intro w cd; replace st := st.call0 cd; clear cd
   have hS : St _ _ [.blk b3 (.cells [.slice os sh.length cs, .slice ol lk.length cl, .slice none 0 0].toArray 25 (0, 0))] w := st.dr
   refine vk_takeU rfl rfl rfl rfl (fun _ => hS) (fun w => (by exact y_faz (k := 1) rfl underlying25 rfl rfl sizeOf22 rfl)) ?_
   iterate 2 refine km hS ?_
   refine vk_takeU rfl rfl rfl rfl (fun _ => hS) (fun w => y_mf [_] [] rfl rfl) ?_
   refine vk_take rfl rfl rfl rfl hS (fun w st => y_ld st 0 rfl isAgg22 rfl rfl) ?_
   refine vk_do rfl rfl (e_callp [_, _] rfl rfl call24 rfl (plist_any c hR 26 (declP c.e) call26 (hdecl c hR) (r1.length + 1) r1.tail (by rw [List.length_tail]; omega) hr1t _ (hC.k1 st.chg) (by exact st.res (i := 4) rfl)) (by rintro _ w' ⟨f, hf, rfl, ch⟩ a ha; exact And.intro ha (Or.inr ⟨_, rfl, f, by rw [hs, hf], rfl, st.chg.trans ch⟩)) ?_)
   rintro _ w ⟨l, r2, hx, hsfr2, hlnr2, hP1, cw, oD, cD, SD, rfl, hQ, hN⟩
   have hNSD := hN.le st.chg.size
   replace st := St.prsT (b := c.pb) st 4 rfl cw (.inl (.head _)) hP1 (holds_dc hQ) hN.2
   dsimp only [setNth] at st
   rw [hx] at hs; dsimp only at hs
   have hr2 := hsfr2.trans hr1t
   have hll := listP_len c.e _ declP_len _ _ _ _ (by assumption)
   refine vk_next st.dr ?_; intro hS
   refine vk_do rfl rfl (e_appr (bytes := 32) (len' := (lk ++ l).length) (ys := (lk ++ l).flatMap dcL) st 3 rfl rfl rfl rfl rfl (dcr_rd (st.res (i := 0) rfl).1) underlying22 Tryz.info52 rfl rfl rfl rfl rfl (dcs_len l) (dcs_one l) (by unfold maxLen; omega) (by omega) (by simp) (by simp) ?_)
   intro oaQ capQ w st; dsimp only [setNth] at st
   refine vk_next st.dr ?_; intro hS
   refine vk_takeU rfl rfl rfl rfl (fun _ => hS) (fun w => (by exact y_faz (k := 1) rfl underlying25 rfl rfl sizeOf22 rfl)) ?_
   refine vk_do rfl rfl (e_st st 1 rfl rfl rfl rfl sizeOf22 rfl rfl (by (right; assumption)) ?_)
   intro w st; dsimp only [setNth, wr] at st
   refine vk_late ?_
   refine vk_end ?_
   refine vq_block (vq_block ?_)
   refine vq_again (sh, lk ++ l, r2, k, os, cs, oaQ, capQ)  ⟨rfl, rfl, rfl, trivial⟩ (st.pick [1, 2, 3, 4, 5] rfl (by decide)) ?_ ?_
   ·exact ⟨(hsfr2.trans (List.tail_suffix _)).trans hsf1, by simp; omega, by dsimp only; omega, hs⟩
   dsimp only; omega
  intro hc16
  try simp only [dn] at hc16
  simp only [hc16, Bool.false_eq_true, if_false] at st
  rw [contPg_th hc5 hc16] at hs
  refine sr ?_
  refine ym ?_
  refine vc_e (e_call [_, _] rfl rfl call27 rfl (pis_any c wThread r1 hr1 _ (hC.k1 st.chg) (by exact st.res (i := 4) rfl)) ?_)
  rintro _ w ⟨rfl, cw⟩
  replace st := st.call0 cw
  refine ya ?_
  refine et (vk4 0 2 3 27 ?_)
  refine vif ?_ ?_
  ·intro hc27
   try simp only [dn] at hc27
   replace st := St.pushR (r := .tree [] (fun w => ThSs 60 56 52 w [] [] [])) st (Chg.refl _ _) (holds_thss (by simp [ThSs])) (by simp [Res.at?])
   replace st := st.ownNil 50 4
   refine vc_seq (vc_block ?_)
   refine vc_loop (w0 := w0) (M := [c.pb]) (fun (z : List Th × List Tok × Nat × Option Addr × Nat × List Value × List Nat) => [(0, .pointer (some ⟨c.pb, 0, none⟩)), (2, .pointer (some ⟨b2, 0, none⟩)), (3, .pointer (some ⟨b3, 0, none⟩))]) (fun z => [.blk b3 (.cells [.slice os sh.length cs, .slice ol lk.length cl, .slice z.2.2.2.1 z.1.length z.2.2.2.2.1].toArray 25 (0, 0)), .own (.slice os sh.length cs) 52 3 sh.length (sh.flatMap dcL), .own (.slice ol lk.length cl) 52 3 lk.length (lk.flatMap dcL), .own (.slice z.2.2.2.1 z.1.length z.2.2.2.2.1) 50 4 z.1.length z.2.2.2.2.2.1, .tree z.2.2.2.2.2.2 (fun w => ThSs 60 56 52 w z.1 z.2.2.2.2.2.1 z.2.2.2.2.2.2), .blk b2 (.cells [.slice none 0 0, .slice none 0 0, .slice none 0 0].toArray 25 (0, 0)), .blk c.pb (.cells (pcell c z.2.1).toArray c.T (0, 0))]) (fun z _ => z.2.1 <:+ r1 ∧ z.2.1.length + z.1.length ≤ r1.length ∧ z.2.1.length < z.2.2.1 ∧ Nw w0.heap.size z.2.2.2.2.2.2 ∧ contT c.e (r1.length + 1) [] r1 = contT c.e z.2.2.1 z.1 z.2.1) (fun z => z.2.1.length) ([], r1, r1.length + 1, none, 0, [], []) ⟨rfl, rfl, rfl, trivial⟩ (st.pick [2, 3, 4, 0, 1, 5, 6] rfl (by decide)) ⟨List.suffix_refl _, by simp, by simp, Nw.nil, rfl⟩ ?_
   clear st
   rintro ⟨acc, r2, j, ot, ct, xs, Sq⟩ w ⟨hsf2, hl2, hj2, hSq, hlo⟩ st
   dsimp only at hsf2 hl2 hj2 hSq hlo st
   have hr2 := hsf2.trans hr1
   obtain ⟨j, rfl⟩ : ∃ i, j = i + 1 := ⟨j - 1, by omega⟩
   refine vc_seq (sr ?_)
   refine ym ?_
   refine vc_e (e_call [_, _] rfl rfl call23 rfl (ptake_any c wThread r2 hr2 _ (hC.k1 st.chg) (by exact st.res (i := 6) rfl)) ?_)
   rintro _ w ⟨rfl, hP1, cw⟩
   replace st := St.prs (b := c.pb) st 6 rfl cw (.inl (.head _)) hP1
   dsimp only [setNth] at st
   refine et (vk4 0 2 3 31 ?_)
   refine vif ?_ ?_
   ·intro hc31
    try simp only [dn] at hc31
    simp only [hc31, if_true] at st
    have ht := tail_lt (isT_ne hc31)
    have hr2t := suf_tail hr2
    rw [hlo, contT_step hc31] at hs
    refine kt (vk3 0 2 3 (vc_block ?_))
    refine vk_draw Tryz.mixed [(0, true), (2, true), (1, true), (3, false), (4, false), (5, false), (6, true), (7, false)] 7 (fun w => St _ _ [.blk b3 (.cells [.slice os sh.length cs, .slice ol lk.length cl, .slice ot acc.length ct].toArray 25 (0, 0))] w) st.dr (by kernel_rfl) (by repeat (first | exact okQ_noPan | exact okQ_body | exact okQ_bodyS | refine okQ_then ?_ | refine okQ_block ?_)) rfl (by kernel_rfl) rfl ?_
    intro w cd; replace st := st.call0 cd; clear cd
    have hS : St _ _ [.blk b3 (.cells [.slice os sh.length cs, .slice ol lk.length cl, .slice ot acc.length ct].toArray 25 (0, 0))] w := st.dr
    refine vk_takeU rfl rfl rfl rfl (fun _ => hS) (fun w => (by exact y_faz (k := 2) rfl underlying25 rfl rfl sizeOf23 rfl)) ?_
    refine km hS ?_
    refine vk_take rfl rfl rfl rfl hS (fun w st => y_ld st 0 rfl isAgg23 rfl rfl) ?_
    refine vk_do rfl rfl (e_callp [_] rfl rfl call28 rfl (pthread_any c hR hg r2.tail hr2t _ (hC.k1 st.chg) (by exact st.res (i := 6) rfl)) (by rintro _ w' ⟨f, hf, rfl, ch⟩ a ha; exact And.intro ha (Or.inr ⟨_, rfl, f, by rw [hs, hf], rfl, st.chg.trans ch⟩)) ?_)
    rintro _ w ⟨t, r3, hx, hsfr3, hlnr3, hP1, cw, tl, tb, cll, cbb, St_, rfl, hQ, hN⟩
    have hNSt := hN.le st.chg.size
    replace st := St.prsT (b := c.pb) st 6 rfl cw (.inl (.head _)) hP1 (holds_ths hQ) hN.2
    dsimp only [setNth] at st
    have hx3 := hx
    refine vk_next st.dr ?_; intro hS
    refine vk_do rfl rfl (e_bs1 (l := [_, _, _, _]) st rfl rfl rfl rfl underlying23 sizeOf50 rfl rfl rfl zeroValue50 ?_)
    intro b36 w hb36 st
    refine vk_next st.dr ?_; intro hS
    refine vk_do rfl rfl (e_app (bytes := 72) st 5 0 rfl rfl rfl rfl rfl rfl underlying23 Tryz.info50 rfl rfl rfl rfl rfl (by simp) rfl rfl (by unfold maxLen; omega) (by omega) ?_)
    intro oaQ capQ w st; dsimp only [setNth] at st
    have hT2 := ThSs.snoc (st.res (i := 6) rfl).1 (st.res (i := 1) rfl).1
    have hN2 := hSq.app hNSt (st.ne (i := 6) (j := 1) (by decide) rfl rfl)
    replace st := ((st.pick [6, 1, 2, 3, 4, 5, 7, 8] rfl (by decide)).join (q := .tree (Sq ++ St_) fun w => ThSs 60 56 52 w (acc ++ [t]) (xs ++ thC t tl tb cll cbb) (Sq ++ St_)) (fun k hk => List.mem_append.1 hk) (holds_thss hT2)).pick [1, 2, 3, 4, 0, 5, 6] rfl (by decide)
    refine vk_next st.dr ?_; intro hS
    refine vk_takeU rfl rfl rfl rfl (fun _ => hS) (fun w => (by exact y_faz (k := 2) rfl underlying25 rfl rfl sizeOf23 rfl)) ?_
    refine vk_do rfl rfl (e_st st 0 rfl rfl rfl rfl sizeOf23 rfl rfl (by (right; assumption)) ?_)
    intro w st; dsimp only [setNth, wr] at st
    refine vk_late ?_
    refine vk_end ?_
    refine vq_block ?_
    refine vq_again (acc ++ [t], r3, j, oaQ, capQ, xs ++ thC t tl tb cll cbb, Sq ++ St_)  ⟨rfl, rfl, rfl, trivial⟩ (by simpa using st) ?_ ?_
    ·exact ⟨(hsfr3.trans (List.tail_suffix _)).trans hsf2, by simp; omega, by dsimp only; omega, hN2, by rw [hlo, contT_step hc31, hx3]⟩
    dsimp only; omega
   intro hc31
   try simp only [dn] at hc31
   simp only [hc31, Bool.false_eq_true, if_false] at st
   rw [hlo, contT_end hc31] at hs; dsimp only at hs
   refine vc_exit (vq_then_exit (vq_then_exit (vq_block_exit (vq_then (vk3 0 2 3 (vc_seq (vc_seq ?_)))))))
   refine vc_draw Tryz.mixed [(0, true), (1, true), (2, true), (3, true), (4, true), (5, true), (6, true), (7, true), (8, true), (9, true)] (fun w => St _ _ _ w) st (by kernel_rfl) (by repeat (first | exact okQ_noPan | exact okQ_body | exact okQ_bodyS | refine okQ_then ?_ | refine okQ_block ?_)) rfl (by kernel_rfl) ?_
   intro w cd; replace st := st.call0 cd; clear cd
   have hS := st
   refine pm hS ?_
   refine pnk hS ?_
   refine pfz hS 1 underlying68 sizeOf3 ?_
   refine pld hS 6 isAgg3 ?_
   refine pm hS ?_
   refine pnk hS ?_
   refine pf0 hS underlying68 sizeOf45 ?_
   refine pld hS 6 isAgg45 ?_
   refine vp_take rfl rfl rfl hS (fun w st => y_lensl rfl underlying45) ?_
   refine vp_take rfl rfl rfl hS (fun w st => y_lss rfl rfl) ?_
   refine vp_end (vq_then (vk4 0 2 3 48 ?_))
   refine vif ?_ ?_
   ·intro hc48
    try simp only [dn] at hc48
    have h0 : ¬ r2.length = 0 := by omega
    rw [if_neg h0] at hs
    refine vc_region ?_
    refine ym ?_
    refine vc_e (e_callp [_, _] rfl rfl call29 rfl (pfail_any c 2 r2 hr2 _ (hC.k1 st.chg) (by exact st.res (i := 6) rfl) hR) (by rintro _ w' ⟨rfl, ch⟩ a ha; exact And.intro ha (Or.inr ⟨_, rfl, (atT c.e r2, 2), by rw [hs]; rfl, rfl, st.chg.trans ch.of_nil⟩)) (fun _ _ h => h.elim))
   intro hc48
   try simp only [dn] at hc48
   have h41 := hr2.length_le
   have h0 : r2.length = 0 := by omega
   rw [if_pos h0] at hs
   refine kt (vk2 2 3 (sr ?_))
   refine yla st 0 [_, _, _] isAgg25 sizeOf25 ?_
   refine vc_e (e_sts (vs := [_, _, _]) st 5 rfl rfl rfl rfl rfl sizeOf25 rfl rfl (by (right; assumption)) ?_)
   intro w st; dsimp only [setNth, wr] at st
   refine et (vk1 2 (vc_ret (vq_block_ret (vq_block_ret (vq_then_ret (vq_block_ret ?_))))))
   refine vq_ret1 st (.inl rfl) results13 (by exact .cell 5 rfl rfl isAgg25 sizeOf25) ?_
   refine .inl ⟨_, rfl, ?_⟩
   have o1 := st.ownNw (i := 1) rfl
   have o2 := st.ownNw (i := 2) rfl
   have o3 := st.ownNw (i := 3) rfl
   have d12 : ∀ k ∈ obk os, k ∉ obk ol := fun k hk hk' => st.ne (i := 1) (j := 2) (by decide) rfl rfl k (by simpa [Res.at?, obk_own] using hk) (by simpa [Res.at?, obk_own] using hk')
   have d13 : ∀ k ∈ obk os, k ∉ obk ot := fun k hk hk' => st.ne (i := 1) (j := 3) (by decide) rfl rfl k (by simpa [Res.at?, obk_own] using hk) (by simpa [Res.at?, obk_own] using hk')
   have d23 : ∀ k ∈ obk ol, k ∉ obk ot := fun k hk hk' => st.ne (i := 2) (j := 3) (by decide) rfl rfl k (by simpa [Res.at?, obk_own] using hk) (by simpa [Res.at?, obk_own] using hk')
   have d14 : ∀ k ∈ obk os, k ∉ Sq := fun k hk => st.ne (i := 1) (j := 4) (by decide) rfl rfl k (by simpa [Res.at?, obk_own] using hk)
   have d24 : ∀ k ∈ obk ol, k ∉ Sq := fun k hk => st.ne (i := 2) (j := 4) (by decide) rfl rfl k (by simpa [Res.at?, obk_own] using hk)
   have d34 : ∀ k ∈ obk ot, k ∉ Sq := fun k hk => st.ne (i := 3) (j := 4) (by decide) rfl rfl k (by simpa [Res.at?, obk_own] using hk)
   exact ⟨⟨sh, lk, acc⟩, hs, st.chg, os, ol, ot, cs, cl, ct, obk os ++ (obk ol ++ (obk ot ++ Sq)), rfl, ⟨os, cs, ol, cl, ot, ct, obk os, obk ol, obk ot ++ Sq, rfl, ⟨o1.1, rfl⟩, ⟨o2.1, rfl⟩, ⟨xs, Sq, o3.1, rfl, (st.res (i := 4) rfl).1⟩, rfl⟩,
     o1.2.app (o2.2.app (o3.2.app hSq d34) (fun b hb hb' => (List.mem_append.1 hb').elim (d23 b hb) (d24 b hb))) (fun b hb hb' => (List.mem_append.1 hb').elim (d12 b hb) fun h => (List.mem_append.1 h).elim (d13 b hb) (d14 b hb))⟩
  intro hc27
  try simp only [dn] at hc27
  rw [contT_end hc27] at hs; dsimp only at hs
  refine vc_seq ?_
  refine vc_draw Tryz.mixed [(0, true), (1, true), (2, true), (3, true), (4, true), (5, true), (6, true), (7, true), (8, true), (9, true), (10, true)] (fun w => St _ _ _ w) st (by kernel_rfl) (by repeat (first | exact okQ_noPan | exact okQ_body | exact okQ_bodyS | refine okQ_then ?_ | refine okQ_block ?_)) rfl (by kernel_rfl) ?_
  intro w cd; replace st := st.call0 cd; clear cd
  have hS := st
  refine pm hS ?_
  refine pnk hS ?_
  refine pfz hS 1 underlying68 sizeOf3 ?_
  refine pld hS 4 isAgg3 ?_
  refine pm hS ?_
  refine pnk hS ?_
  refine pf0 hS underlying68 sizeOf45 ?_
  refine pld hS 4 isAgg45 ?_
  refine vp_take rfl rfl rfl hS (fun w st => y_lensl rfl underlying45) ?_
  refine vp_take rfl rfl rfl hS (fun w st => y_lss rfl rfl) ?_
  refine vp_take rfl rfl rfl hS (fun w st => y_as rfl) ?_
  refine vp_end (vq_then (vk4 0 2 3 52 ?_))
  refine vif ?_ ?_
  ·intro hc52
   try simp only [dn] at hc52
   have h0 : ¬ r1.length = 0 := by omega
   rw [if_neg h0] at hs
   refine vc_region ?_
   refine ym ?_
   refine vc_e (e_callp [_, _] rfl rfl call29 rfl (pfail_any c 2 r1 hr1 _ (hC.k1 st.chg) (by exact st.res (i := 4) rfl) hR) (by rintro _ w' ⟨rfl, ch⟩ a ha; exact And.intro ha (Or.inr ⟨_, rfl, (atT c.e r1, 2), by rw [hs]; rfl, rfl, st.chg.trans ch.of_nil⟩)) (fun _ _ h => h.elim))
  intro hc52
  try simp only [dn] at hc52
  have h41 := hr1.length_le
  have h0 : r1.length = 0 := by omega
  rw [if_pos h0] at hs
  refine sr ?_
  refine yla st 0 [_, _, _] isAgg25 sizeOf25 ?_
  refine vc_e (e_sts (vs := [_, _, _]) st 3 rfl rfl rfl rfl rfl sizeOf25 rfl rfl (by (right; assumption)) ?_)
  intro w st; dsimp only [setNth, wr] at st
  refine et (vk1 2 (vc_ret (vq_block_ret (vq_block_ret (vq_then_ret (vq_block_ret ?_))))))
  refine vq_ret1 st (.inl rfl) results13 (by exact .cell 3 rfl rfl isAgg25 sizeOf25) ?_
  refine .inl ⟨_, rfl, ?_⟩
  have o1 := st.ownNw (i := 1) rfl
  have o2 := st.ownNw (i := 2) rfl
  have d12 : ∀ k ∈ obk os, k ∉ obk ol := fun k hk hk' => st.ne (i := 1) (j := 2) (by decide) rfl rfl k (by simpa [Res.at?, obk_own] using hk) (by simpa [Res.at?, obk_own] using hk')
  exact ⟨⟨sh, lk, []⟩, hs, st.chg, os, ol, none, cs, cl, 0, obk os ++ (obk ol ++ []), rfl, ⟨os, cs, ol, cl, none, 0, obk os, obk ol, [], rfl, ⟨o1.1, rfl⟩, ⟨o2.1, rfl⟩, ⟨[], [], World.ownsRow_nil _ _ _ _, rfl, rfl, rfl⟩, rfl⟩,
    by rw [List.append_nil]; exact o1.2.app o2.2 d12⟩
end Go.Proofs.YtggnfanphcaamaaGreatDoor


/- The reader that goes on: lists, statements, threads, programs. -/
namespace ParS
open Sx LexS

theorem Done.any {α : Type} {F : List Tok → PR α} {σ σ' : RS} {x : α} (h : ¬ σ.ok) (hd : Done (run F σ) x σ') (y : α) : Done (run F σ) y σ' := by rw [run_bad h] at hd ⊢; exact hd
theorem Done.named {β : Type} {e : Nat} {G : Tok → List Tok → PR β} {g : Tok → β} {σ σ2 : RS} {y : β} (h : Done (run (G (here σ.r)) (nameR e σ)) (g (here σ.r)) σ2) (hy : nameB σ = true → y = g (here σ.r)) :
    Done (run (fun r => match nameP e r with | .error f => .error f | .ok (t, r') => G t r') σ) y σ2 := by
  by_cases hb : nameB σ = true
  · rw [hy hb]
    unfold nameR at h; rw [if_pos hb] at h
    have hb' := hb
    simp only [nameB, Bool.and_eq_true, decide_eq_true_eq] at hb'
    obtain ⟨ho, hi⟩ := hb'
    rw [run_ok ho]
    rw [run_ok (by exact ho)] at h
    unfold nameP
    rw [if_pos hi]; exact h
  · have hn : ¬ (nameR e σ).ok := by
      unfold nameR; rw [if_neg hb]
      exact failR_not (by decide)
    have h := h.any hn y
    rw [run_bad hn] at h
    unfold nameR at h; rw [if_neg hb] at h
    by_cases ho : σ.ok
    · rw [run_ok ho]
      simp only [nameB, ho, decide_true, Bool.true_and, decide_eq_true_eq] at hb
      unfold nameP
      rw [if_neg hb]
      rw [failR_ok ho] at h
      exact h
    · rw [failR_bad ho] at h
      rw [run_bad ho]; exact h
/-- one reader behind another -/
def bnd {α β : Type} (p : PR α) (k : α → List Tok → PR β) : PR β := match p with
  | .error f => .error f
  | .ok (a, r) => k a r
def bndW {β : Type} (p : Except Flt (List Tok)) (k : List Tok → PR β) : PR β := match p with
  | .error f => .error f
  | .ok r => k r
theorem Done.bindB {α β : Type} {F : List Tok → PR α} {σ σ1 σ2 : RS} {x : α} {y : β} (G : α → List Tok → PR β) (h1 : Done (run F σ) x σ1) (h2 : Done (run (G x) σ1) y σ2) : Done (run (fun r => bnd (F r) G) σ) y σ2 :=
  (Done.bind h1 h2).congr (fun r => by unfold bnd; cases F r with | error f => rfl | ok p => rfl)
theorem Done.wantB {β : Type} {e : Nat} {s : List UInt8} {G : List Tok → PR β} {σ σ2 : RS} {y : β} (h2 : Done (run G (wantR e s σ)) y σ2) : Done (run (fun r => bndW (ParS.want e s r) G) σ) y σ2 :=
  (Done.want h2).congr (fun r => by unfold bndW; cases ParS.want e s r with | error f => rfl | ok p => rfl)
theorem Done.namedB {β : Type} {e : Nat} {σ σ2 : RS} {y : β} (G : Tok → List Tok → PR β) (g : Tok → β) (h : Done (run (G (here σ.r)) (nameR e σ)) (g (here σ.r)) σ2) (hy : nameB σ = true → y = g (here σ.r)) : Done (run (fun r => bnd (nameP e r) G) σ) y σ2 :=
  (Done.named h hy).congr (fun r => by unfold bnd; cases nameP e r with | error f => rfl | ok p => rfl)
theorem nameT_pos {σ : RS} (h : nameB σ = true) : nameT σ = (here σ.r).text := if_pos h
theorem nameA_pos {σ : RS} (h : nameB σ = true) : nameA σ = (here σ.r).at_ := if_pos h
theorem nameT_neg {σ : RS} (h : nameB σ = false) : nameT σ = [] := if_neg (by simp [h])
theorem nameA_neg {σ : RS} (h : nameB σ = false) : nameA σ = 0 := if_neg (by simp [h])

/-! ### rows, some of which has come -/
def addL {α : Type} (acc : List α) (p : PR (List α)) : PR (List α) := match p with
  | .error f => .error f
  | .ok (l, r) => .ok (acc ++ l, r)
theorem addL_nil {α : Type} (p : PR (List α)) : addL [] p = p := by unfold addL; cases p with | error f => rfl | ok q => rfl
theorem Done.add {α : Type} {acc l : List α} {p : PR (List α)} {σ : RS} (h : Done p l σ) : Done (addL acc p) (acc ++ l) σ := by
  cases p with
  | error f => exact h
  | ok q => obtain ⟨h1, h2, h3⟩ := h; exact ⟨by rw [h1], h2, h3⟩
theorem Done.add_nil {α : Type} {acc : List α} {p : PR (List α)} {σ : RS} (h : Done p [] σ) : Done (addL acc p) acc σ := by
  have := h.add (acc := acc); rwa [List.append_nil] at this
section
variable {e : Nat}
theorem decl_done (σ : RS) : Done (run (declP e) σ) ⟨nameT σ, 0, (nameA σ : Int)⟩ (nameR e σ) :=
  (Done.named (β := Dc) (e := e) (σ := σ) (G := fun t r => .ok (⟨t.text, 0, (t.at_ : Int)⟩, r)) (g := fun t => ⟨t.text, 0, (t.at_ : Int)⟩) (Done.ret _ _) (fun h => by rw [nameT_pos h, nameA_pos h])).congr (fun r => rfl)
theorem list_more {one : List Tok → PR Dc} {k : Nat} {acc : List Dc} {d : Dc} {σ σ1 : RS} (h : Done (run one σ) d σ1) (ht : takeB [44] σ1 = true) :
    addL acc (run (listP e one (k + 1)) σ) = addL (acc ++ [d]) (run (listP e one k) ⟨σ1.r.tail, σ1.f⟩) := by
  obtain ⟨ho, hi⟩ := takeB_pos ht
  obtain ⟨h1, h2⟩ := h.ok_inv ho
  rw [run_ok h1, run_ok (by exact ho)]
  simp only [listP, h2]
  rw [if_pos hi]
  cases hl : listP e one k σ1.r.tail with
  | error f => rfl
  | ok p => simp [addL]
theorem list_last {one : List Tok → PR Dc} {k : Nat} {d : Dc} {σ σ1 : RS} (h : Done (run one σ) d σ1) (ht : takeB [44] σ1 = false) : Done (run (listP e one (k + 1)) σ) [d] (wantR e [59] σ1) := by
  have hw : Done (run (fun r => match ParS.want e [59] r with | .error f => .error f | .ok r' => .ok ([d], r')) σ1) [d] (wantR e [59] σ1) := Done.want (Done.ret _ _)
  by_cases h1 : σ1.ok
  · obtain ⟨ho, h2⟩ := h.ok_inv h1
    rw [run_ok ho]
    rw [run_ok h1] at hw
    rw [takeB_ok h1] at ht
    simp only [listP, h2]
    rw [if_neg (by simp [ht])]
    cases hq : ParS.want e [59] σ1.r with
    | error f => rw [hq] at hw; exact hw
    | ok r => rw [hq] at hw; exact hw
  · rw [run_bad h1, wantR_bad h1] at hw
    rw [wantR_bad h1]
    by_cases ho : σ.ok
    · rw [run_ok ho] at h ⊢
      simp only [listP]
      cases hq : one σ.r with
      | error f => rw [hq] at h; exact h
      | ok p => rw [hq] at h; exact absurd h.2.2 h1
    · rw [run_bad ho] at h ⊢; exact h
theorem list_bad {one : List Tok → PR Dc} {k : Nat} {σ : RS} (h : ¬ σ.ok) : Done (run (listP e one k) σ) [] (wantR e [59] σ) := by rw [wantR_bad h]; exact .bad h _
/-- a shared variable with no number -/
theorem init_none {σ : RS} (ht : takeB [61] (nameR e σ) = false) : Done (run (initP e) σ) ⟨nameT σ, 0, (nameA σ : Int)⟩ (nameR e σ) := by
  refine (Done.named (β := Dc) (e := e) (σ := σ) (G := fun t r => if isT [61] r = true then (match wordP e (isT [45] r.tail) (if isT [45] r.tail = true then r.tail.tail else r.tail) with
        | .error f => .error f
        | .ok (x, r') => .ok (⟨t.text, x, (t.at_ : Int)⟩, r'))
    else .ok (⟨t.text, 0, (t.at_ : Int)⟩, r)) (g := fun t => ⟨t.text, 0, (t.at_ : Int)⟩) ?_ (fun h => by rw [nameT_pos h, nameA_pos h])).congr (fun r => rfl)
  by_cases ho : (nameR e σ).ok
  · rw [run_ok ho]
    rw [takeB_ok ho] at ht
    rw [if_neg (by simp [ht])]
    exact ⟨rfl, rfl, ho⟩
  · exact .bad ho _
/-- and with one -/
theorem init_word {σ σ3 σ4 : RS} {m : Bool} (ht : takeB [61] (nameR e σ) = true) (hm : takeB [45] ⟨(nameR e σ).r.tail, (nameR e σ).f⟩ = m) (h3 : σ3 = takeR [45] ⟨(nameR e σ).r.tail, (nameR e σ).f⟩)
    (h4 : ((here σ3.r).kind = 3 ∧ σ4 = ⟨σ3.r.tail, σ3.f⟩) ∨ ((here σ3.r).kind ≠ 3 ∧ σ4 = failR e 2 σ3)) : Done (run (initP e) σ) ⟨nameT σ, if m = true then -((here σ3.r).word : Int) else ((here σ3.r).word : Int), (nameA σ : Int)⟩ σ4 := by
  obtain ⟨ho, hi⟩ := takeB_pos ht
  have hnb : nameB σ = true := by
    cases hb : nameB σ with
    | true => rfl
    | false => exact absurd ho (by unfold nameR; rw [if_neg (by simp [hb])]; exact failR_not (by decide))
  have ho' : (RS.mk (nameR e σ).r.tail (nameR e σ).f).ok := ho
  rw [takeB_ok ho'] at hm
  have h3r : σ3.r = if isT [45] (nameR e σ).r.tail = true then (nameR e σ).r.tail.tail else (nameR e σ).r.tail := by
    rw [h3]; unfold takeR; rw [takeB_ok ho']; dsimp only; split <;> rfl
  have h3f : σ3.ok := by rw [h3]; unfold takeR; split <;> exact ho
  refine (Done.named (β := Dc) (e := e) (σ := σ) (G := fun t r => if isT [61] r = true then (match wordP e (isT [45] r.tail) (if isT [45] r.tail = true then r.tail.tail else r.tail) with
        | .error f => .error f
        | .ok (x, r') => .ok (⟨t.text, x, (t.at_ : Int)⟩, r'))
    else .ok (⟨t.text, 0, (t.at_ : Int)⟩, r)) (g := fun t => ⟨t.text, if m = true then -((here σ3.r).word : Int) else ((here σ3.r).word : Int), (t.at_ : Int)⟩) ?_ (fun h => by rw [nameT_pos h, nameA_pos h])).congr (fun r => rfl)
  rw [run_ok ho, if_pos hi, ← h3r]
  dsimp only at hm
  rw [hm]
  unfold wordP
  rcases h4 with ⟨hk, rfl⟩ | ⟨hk, rfl⟩
  · rw [if_pos hk]
    exact ⟨rfl, rfl, h3f⟩
  · rw [if_neg hk, failR_ok h3f]
    exact ⟨rfl, by show (2 : Nat) ≠ 0; decide⟩
/-! ### statements -/
theorem rest_step {st : List Tok → PR Sm} {k : Nat} {acc : List Sm} {s : Sm} {σ σ1 : RS} (ho : σ.ok) (ht : takeB [125] σ = false) (h : Done (run st σ) s σ1) :
    addL acc (run (restW st (k + 1)) σ) = addL (acc ++ [s]) (run (restW st k) σ1) := by
  rw [takeB_ok ho] at ht
  rw [run_ok ho] at h ⊢
  simp only [restW]
  rw [if_neg (by simp [ht])]
  cases hs : st σ.r with
  | error f =>
    rw [hs] at h
    have hb : ¬ σ1.ok := by show ¬ σ1.f.2 = 0; rw [h.1]; exact h.2
    rw [run_bad hb, h.1]; rfl
  | ok p =>
    obtain ⟨s1, r1⟩ := p
    rw [hs] at h
    obtain ⟨rfl, h2, h3⟩ := h
    rw [run_ok h3, h2]
    simp only
    cases restW st k r1 with
    | error f => rfl
    | ok q => simp [addL]
theorem rest_end {st : List Tok → PR Sm} {k : Nat} {σ : RS} (ht : takeB [125] σ = true) : Done (run (restW st (k + 1)) σ) [] ⟨σ.r.tail, σ.f⟩ := by
  obtain ⟨ho, hi⟩ := takeB_pos ht
  rw [run_ok ho]
  simp only [restW]
  rw [if_pos hi]
  exact ⟨rfl, rfl, ho⟩
theorem block_done {m : Nat} {σ σ2 : RS} {l : List Sm} (hm : ¬ (takeB [123] σ = true ∧ m = 0)) (h : Done (run (fun r1 => restW (stmtP e (m - 1)) (r1.length + 1) r1) (wantR e [123] σ)) l σ2) : Done (run (blkP e m) σ) l σ2 := by
  have hw := Done.want h
  cases m with
  | succ m => exact hw.congr (fun r => rfl)
  | zero =>
    have ht : takeB [123] σ = false := by cases hb : takeB [123] σ with | false => rfl | true => exact absurd ⟨hb, rfl⟩ hm
    by_cases ho : σ.ok
    · refine hw.at_ ?_
      rw [takeB_ok ho] at ht
      simp only [blkP, ht, want_neg ht, Bool.false_eq_true, if_false] <;> rfl
    · rw [run_bad ho] at hw ⊢; exact hw
theorem block_deep {σ σ2 : RS} {l : List Sm} (ht : takeB [123] σ = true) (hf : σ2.f = (failR e 3 σ).f) : Done (run (blkP e 0) σ) l σ2 := by
  obtain ⟨ho, hi⟩ := takeB_pos ht
  refine .of_fail (k := 3) (by decide) (fun _ => ?_) hf
  simp only [blkP, hi, if_true]
theorem cond_done {σ σ2 : RS} {x : Ex} (h : Done (run (exprP e 64) (wantR e [40] σ)) x σ2) : Done (run (condP e) σ) x (wantR e [41] σ2) := by
  refine (Done.wantB (h.bindB (fun x r => bndW (ParS.want e [41] r) fun r2 => .ok (x, r2)) (Done.wantB (Done.ret x _)))).congr (fun r => ?_)
  unfold condP bndW
  cases ParS.want e [40] r with
  | error f => rfl
  | ok r1 =>
    unfold bnd; dsimp only
    cases exprP e 64 r1 with
    | error f => rfl
    | ok p => dsimp only; cases ParS.want e [41] p.2 <;> rfl
theorem semi_done {σ σ2 : RS} {x : Ex} (h : Done (run (exprP e 64) σ) x σ2) : Done (run (exprSemi e) σ) x (wantR e [59] σ2) := by
  refine (h.bindB (fun x r => bndW (ParS.want e [59] r) fun r2 => .ok (x, r2)) (Done.wantB (Done.ret x _))).congr (fun r => ?_)
  unfold exprSemi bnd bndW
  cases exprP e 64 r with
  | error f => rfl
  | ok p => dsimp only; cases ParS.want e [59] p.2 <;> rfl
/-- a form by its word -/
theorem form_of {r : List Tok} {s : List UInt8} (hs : isSign s = false) (hk : (here r).kind = 4 → isSign (here r).text = true) : formT (here r) s = isT s r := by
  unfold formT isT
  by_cases ht : (here r).text = s
  · have h4 : ¬ (here r).kind = 4 := fun h => by have := hk h; rw [ht, hs] at this; cases this
    simp [ht, h4]
  · simp [ht]
section
variable {blk : List Tok → PR (List Sm)} {σ : RS} (hk : (here σ.r).kind = 4 → isSign (here σ.r).text = true)
include hk
theorem stmt_if (ht : takeB wIf σ = true) : run (stmtW e blk) σ = run (choiceP e blk (atT e σ.r)) ⟨σ.r.tail, σ.f⟩ := by
  obtain ⟨ho, hi⟩ := takeB_pos ht
  rw [run_ok ho, run_ok (by exact ho), stmtW_eq, form_of (by decide) hk, if_pos hi]
theorem stmt_while (h1 : takeB wIf σ = false) (ht : takeB wWhile σ = true) : run (stmtW e blk) σ = run (loopP e blk (atT e σ.r)) ⟨σ.r.tail, σ.f⟩ := by
  obtain ⟨ho, hi⟩ := takeB_pos ht
  rw [takeB_ok ho] at h1
  rw [run_ok ho, run_ok (by exact ho), stmtW_eq, form_of (by decide) hk, form_of (by decide) hk, if_neg (by simp [h1]), if_pos hi]
theorem stmt_lock (h1 : takeB wIf σ = false) (h2 : takeB wWhile σ = false) (ht : takeB wLock σ = true) : run (stmtW e blk) σ = run (guardP e blk (atT e σ.r)) ⟨σ.r.tail, σ.f⟩ := by
  obtain ⟨ho, hi⟩ := takeB_pos ht
  rw [takeB_ok ho] at h1 h2
  rw [run_ok ho, run_ok (by exact ho), stmtW_eq, form_of (by decide) hk, form_of (by decide) hk, form_of (by decide) hk, if_neg (by simp [h1]), if_neg (by simp [h2]), if_pos hi]
theorem stmt_print (h1 : takeB wIf σ = false) (h2 : takeB wWhile σ = false) (h3 : takeB wLock σ = false) (ht : takeB wPrint σ = true) : run (stmtW e blk) σ = run (printP e (atT e σ.r)) ⟨σ.r.tail, σ.f⟩ := by
  obtain ⟨ho, hi⟩ := takeB_pos ht
  rw [takeB_ok ho] at h1 h2 h3
  rw [run_ok ho, run_ok (by exact ho), stmtW_eq, form_of (by decide) hk, form_of (by decide) hk, form_of (by decide) hk, form_of (by decide) hk, if_neg (by simp [h1]), if_neg (by simp [h2]), if_neg (by simp [h3]), if_pos hi]
theorem stmt_skip (h1 : takeB wIf σ = false) (h2 : takeB wWhile σ = false) (h3 : takeB wLock σ = false) (h4 : takeB wPrint σ = false) (ht : takeB wSkip σ = true) : run (stmtW e blk) σ = run (skipP e (atT e σ.r)) ⟨σ.r.tail, σ.f⟩ := by
  obtain ⟨ho, hi⟩ := takeB_pos ht
  rw [takeB_ok ho] at h1 h2 h3 h4
  rw [run_ok ho, run_ok (by exact ho), stmtW_eq, form_of (by decide) hk, form_of (by decide) hk, form_of (by decide) hk, form_of (by decide) hk, form_of (by decide) hk, if_neg (by simp [h1]), if_neg (by simp [h2]), if_neg (by simp [h3]), if_neg (by simp [h4]), if_pos hi]
theorem stmt_assign (h1 : takeB wIf σ = false) (h2 : takeB wWhile σ = false) (h3 : takeB wLock σ = false) (h4 : takeB wPrint σ = false) (h5 : takeB wSkip σ = false) : run (stmtW e blk) σ = run (assignP e (atT e σ.r)) σ := by
  by_cases ho : σ.ok
  · rw [takeB_ok ho] at h1 h2 h3 h4 h5
    rw [run_ok ho, run_ok ho, stmtW_eq, form_of (by decide) hk, form_of (by decide) hk, form_of (by decide) hk, form_of (by decide) hk, form_of (by decide) hk, if_neg (by simp [h1]), if_neg (by simp [h2]), if_neg (by simp [h3]), if_neg (by simp [h4]), if_neg (by simp [h5])]
  · rw [run_bad ho, run_bad ho]
end
theorem loop_done {blk : List Tok → PR (List Sm)} {a : Nat} {σ σ1 σ2 : RS} {x : Ex} {b : List Sm} (h1 : Done (run (condP e) σ) x σ1) (h2 : Done (run blk σ1) b σ2) : Done (run (loopP e blk a) σ) (.mk 4 [] [] [x] b [] (a : Int)) σ2 := by
  refine (h1.bindB (fun x r => bnd (blk r) fun b r1 => .ok (Sm.mk 4 [] [] [x] b [] (a : Int), r1)) (h2.bindB _ (Done.ret _ _))).congr (fun r => ?_)
  unfold loopP bnd
  cases condP e r with
  | error f => rfl
  | ok p => dsimp only; cases blk p.2 <;> rfl
theorem guard_done {blk : List Tok → PR (List Sm)} {a : Nat} {σ σ2 : RS} {b : List Sm} (h2 : Done (run blk (nameR e σ)) b σ2) : Done (run (guardP e blk a) σ) (.mk 5 (nameT σ) [] [] b [] (a : Int)) σ2 := by
  refine (Done.namedB (fun t r => bnd (blk r) fun b r1 => .ok (Sm.mk 5 t.text [] [] b [] (a : Int), r1)) (fun t => Sm.mk 5 t.text [] [] b [] (a : Int)) (h2.bindB _ (Done.ret _ _)) (fun h => by rw [nameT_pos h])).congr (fun r => ?_)
  unfold guardP bnd
  cases nameP e r with
  | error f => rfl
  | ok p => dsimp only; cases blk p.2 <;> rfl
theorem print_done {a : Nat} {σ σ1 : RS} {x : Ex} (h : Done (run (exprP e 64) σ) x σ1) : Done (run (printP e a) σ) (.mk 6 [] [] [x] [] [] (a : Int)) (wantR e [59] σ1) := by
  refine (h.bindB (fun x r => bndW (ParS.want e [59] r) fun r2 => .ok (Sm.mk 6 [] [] [x] [] [] (a : Int), r2)) (Done.wantB (Done.ret _ _))).congr (fun r => ?_)
  unfold printP bnd bndW
  cases exprP e 64 r with
  | error f => rfl
  | ok p => dsimp only; cases ParS.want e [59] p.2 <;> rfl
theorem skip_done {a : Nat} {σ : RS} : Done (run (skipP e a) σ) (.mk 7 [] [] [] [] [] (a : Int)) (wantR e [59] σ) :=
  (Done.wantB (G := fun r => .ok (Sm.mk 7 [] [] [] [] [] (a : Int), r)) (Done.ret _ _)).congr (fun r => by unfold skipP bndW; cases ParS.want e [59] r <;> rfl)
/-- what stands behind an if's block -/
def elseP (blk : List Tok → PR (List Sm)) (a : Nat) (x : Ex) (b : List Sm) (r1 : List Tok) : PR Sm := if isT wElse r1 = true then bnd (blk r1.tail) (fun l r2 => .ok (Sm.mk 3 [] [] [x] b l (a : Int), r2)) else .ok (Sm.mk 3 [] [] [x] b [] (a : Int), r1)
theorem choice_eq (blk : List Tok → PR (List Sm)) (a : Nat) (r : List Tok) : bnd (condP e r) (fun x r => bnd (blk r) fun b r1 => elseP blk a x b r1) = choiceP e blk a r := by
  unfold choiceP bnd
  cases condP e r with
  | error f => rfl
  | ok p =>
    dsimp only
    cases blk p.2 with
    | error f => rfl
    | ok q =>
      dsimp only
      unfold elseP bnd
      split
      · cases blk q.2.tail <;> rfl
      · rfl
theorem choice_else {blk : List Tok → PR (List Sm)} {a : Nat} {σ σ1 σ2 σ3 : RS} {x : Ex} {b l : List Sm} (h1 : Done (run (condP e) σ) x σ1) (h2 : Done (run blk σ1) b σ2) (ht : takeB wElse σ2 = true) (h3 : Done (run blk ⟨σ2.r.tail, σ2.f⟩) l σ3) :
    Done (run (choiceP e blk a) σ) (.mk 3 [] [] [x] b l (a : Int)) σ3 := by
  refine (h1.bindB (fun x r => bnd (blk r) fun b r1 => elseP blk a x b r1) (h2.bindB (fun b r1 => elseP blk a x b r1) ?_)).congr (choice_eq blk a)
  exact Done.ifT (G1 := fun r => bnd (blk r) (fun l r2 => .ok (Sm.mk 3 [] [] [x] b l (a : Int), r2))) ht (h3.bindB _ (Done.ret _ _))
theorem choice_one {blk : List Tok → PR (List Sm)} {a : Nat} {σ σ1 σ2 : RS} {x : Ex} {b : List Sm} (h1 : Done (run (condP e) σ) x σ1) (h2 : Done (run blk σ1) b σ2) (ht : takeB wElse σ2 = false) :
    Done (run (choiceP e blk a) σ) (.mk 3 [] [] [x] b [] (a : Int)) σ2 := by
  refine (h1.bindB (fun x r => bnd (blk r) fun b r1 => elseP blk a x b r1) (h2.bindB (fun b r1 => elseP blk a x b r1) ?_)).congr (choice_eq blk a)
  exact Done.ifF (G1 := fun r => bnd (blk r) (fun l r2 => .ok (Sm.mk 3 [] [] [x] b l (a : Int), r2))) ht (Done.ret _ _)
/-- what stands in a swap's parentheses, pieced together -/
def swapQ (e : Nat) (r : List Tok) : PR (List UInt8 × Ex) := bndW (ParS.want e [40] r) fun r => bnd (nameP e r) fun t r1 => bndW (ParS.want e [44] r1) fun r2 => bnd (exprP e 64 r2) fun x r3 => bndW (ParS.want e [41] r3) fun r4 => bndW (ParS.want e [59] r4) fun r5 => .ok ((t.text, x), r5)
theorem swapQ_eq (r : List Tok) : swapQ e r = swapP e r := by
  unfold swapQ swapP bnd bndW
  cases ParS.want e [40] r with
  | error f => rfl
  | ok r0 =>
    dsimp only
    cases nameP e r0 with
    | error f => rfl
    | ok p =>
      dsimp only
      cases ParS.want e [44] p.2 with
      | error f => rfl
      | ok r2 =>
        dsimp only
        cases exprP e 64 r2 with
        | error f => rfl
        | ok q =>
          dsimp only
          cases ParS.want e [41] q.2 with
          | error f => rfl
          | ok r4 => dsimp only; cases ParS.want e [59] r4 <;> rfl
def sideP (e : Nat) (a : Nat) (n : List UInt8) (r1 : List Tok) : PR Sm := if isT wSwap r1 = true then bnd (swapQ e r1.tail) (fun p r2 => .ok (Sm.mk 2 n p.1 [p.2] [] [] (a : Int), r2)) else bnd (exprSemi e r1) (fun x r2 => .ok (Sm.mk 1 n [] [x] [] [] (a : Int), r2))
theorem assign_eq (a : Nat) (r : List Tok) : bnd (nameP e r) (fun t r => bndW (ParS.want e [61] r) fun r1 => sideP e a t.text r1) = assignP e a r := by
  unfold assignP bnd bndW
  cases nameP e r with
  | error f => rfl
  | ok p =>
    dsimp only
    cases ParS.want e [61] p.2 with
    | error f => rfl
    | ok r1 =>
      dsimp only
      unfold sideP bnd
      split
      · rw [swapQ_eq]; cases swapP e r1.tail <;> rfl
      · cases exprSemi e r1 <;> rfl
theorem assign_swap {a : Nat} {σ σ4 σ7 : RS} {x : Ex} (ht : takeB wSwap (wantR e [61] (nameR e σ)) = true) (h4 : σ4 = wantR e [40] ⟨(wantR e [61] (nameR e σ)).r.tail, (wantR e [61] (nameR e σ)).f⟩)
    (hx : Done (run (exprP e 64) (wantR e [44] (nameR e σ4))) x σ7) : Done (run (assignP e a) σ) (.mk 2 (nameT σ) (nameT σ4) [x] [] [] (a : Int)) (wantR e [59] (wantR e [41] σ7)) := by
  have k3 : Done (run (swapQ e) ⟨(wantR e [61] (nameR e σ)).r.tail, (wantR e [61] (nameR e σ)).f⟩) (nameT σ4, x) (wantR e [59] (wantR e [41] σ7)) := by
    refine Done.wantB (G := fun r => bnd (nameP e r) fun t r1 => bndW (ParS.want e [44] r1) fun r2 => bnd (exprP e 64 r2) fun x r3 => bndW (ParS.want e [41] r3) fun r4 => bndW (ParS.want e [59] r4) fun r5 => .ok ((t.text, x), r5)) ?_
    rw [← h4]
    refine Done.namedB (fun t r1 => bndW (ParS.want e [44] r1) fun r2 => bnd (exprP e 64 r2) fun x r3 => bndW (ParS.want e [41] r3) fun r4 => bndW (ParS.want e [59] r4) fun r5 => .ok ((t.text, x), r5)) (fun t => (t.text, x)) ?_ (fun h => by rw [nameT_pos h])
    exact Done.wantB (hx.bindB (fun x r3 => bndW (ParS.want e [41] r3) fun r4 => bndW (ParS.want e [59] r4) fun r5 => .ok (((here σ4.r).text, x), r5)) (Done.wantB (Done.wantB (Done.ret _ _))))
  refine (Done.namedB (fun t r => bndW (ParS.want e [61] r) fun r1 => sideP e a t.text r1) (fun t => Sm.mk 2 t.text (nameT σ4) [x] [] [] (a : Int)) (Done.wantB ?_) (fun h => by rw [nameT_pos h])).congr (assign_eq a)
  exact Done.ifT (G1 := fun r => bnd (swapQ e r) (fun p r2 => .ok (Sm.mk 2 (here σ.r).text p.1 [p.2] [] [] (a : Int), r2))) ht (k3.bindB _ (Done.ret _ _))
theorem assign_plain {a : Nat} {σ σ3 : RS} {x : Ex} (ht : takeB wSwap (wantR e [61] (nameR e σ)) = false) (hx : Done (run (exprP e 64) (wantR e [61] (nameR e σ))) x σ3) : Done (run (assignP e a) σ) (.mk 1 (nameT σ) [] [x] [] [] (a : Int)) (wantR e [59] σ3) := by
  refine (Done.namedB (fun t r => bndW (ParS.want e [61] r) fun r1 => sideP e a t.text r1) (fun t => Sm.mk 1 t.text [] [x] [] [] (a : Int)) (Done.wantB ?_) (fun h => by rw [nameT_pos h])).congr (assign_eq a)
  exact Done.ifF (G1 := fun r => bnd (swapQ e r) (fun p r2 => .ok (Sm.mk 2 (here σ.r).text p.1 [p.2] [] [] (a : Int), r2))) ht ((semi_done hx).bindB _ (Done.ret _ _))
/-! ### how far statements go -/
theorem want_len {s : List UInt8} {r r' : List Tok} (h : ParS.want e s r = .ok r') : r'.length < r.length := by
  obtain ⟨hc, rfl⟩ := want_ok h; exact tail_lt (isT_ne hc)
theorem name_len {r r' : List Tok} {t : Tok} (h : nameP e r = .ok (t, r')) : r'.length < r.length := by
  unfold nameP at h; split at h
  · rename_i hk; cases h; exact tail_lt (kind_ne hk (by decide))
  · cases h
theorem cond_len {r r' : List Tok} {x : Ex} (h : condP e r = .ok (x, r')) : r'.length < r.length := by
  unfold condP at h
  cases h1 : ParS.want e [40] r with
  | error f => rw [h1] at h; cases h
  | ok r1 =>
    rw [h1] at h; dsimp only at h
    have k1 := want_len h1
    cases h2 : exprP e 64 r1 with
    | error f => rw [h2] at h; cases h
    | ok p =>
      obtain ⟨y, r2⟩ := p
      rw [h2] at h; dsimp only at h
      have k2 := expr_goes _ _ _ _ _ h2
      cases h3 : ParS.want e [41] r2 with
      | error f => rw [h3] at h; cases h
      | ok r3 => rw [h3] at h; cases h; have := want_len h3; omega
theorem semi_len {r r' : List Tok} {x : Ex} (h : exprSemi e r = .ok (x, r')) : r'.length < r.length := by
  unfold exprSemi at h
  cases h2 : exprP e 64 r with
  | error f => rw [h2] at h; cases h
  | ok p =>
    obtain ⟨y, r2⟩ := p
    rw [h2] at h; dsimp only at h
    have k2 := expr_goes _ _ _ _ _ h2
    cases h3 : ParS.want e [59] r2 with
    | error f => rw [h3] at h; cases h
    | ok r3 => rw [h3] at h; cases h; have := want_len h3; omega
theorem swap_len {r r' : List Tok} {p : List UInt8 × Ex} (h : swapP e r = .ok (p, r')) : r'.length < r.length := by
  rw [← swapQ_eq] at h
  unfold swapQ bnd bndW at h
  cases h1 : ParS.want e [40] r with
  | error f => rw [h1] at h; cases h
  | ok r1 =>
    rw [h1] at h; dsimp only at h
    have k1 := want_len h1
    cases hn : nameP e r1 with
    | error f => rw [hn] at h; cases h
    | ok q =>
      rw [hn] at h; dsimp only at h
      have k2 := name_len (r' := q.2) (t := q.1) hn
      cases h3 : ParS.want e [44] q.2 with
      | error f => rw [h3] at h; cases h
      | ok r3 =>
        rw [h3] at h; dsimp only at h
        have k3 := want_len h3
        cases h4 : exprP e 64 r3 with
        | error f => rw [h4] at h; cases h
        | ok y =>
          rw [h4] at h; dsimp only at h
          have k4 := expr_goes _ _ _ y.1 y.2 h4
          cases h5 : ParS.want e [41] y.2 with
          | error f => rw [h5] at h; cases h
          | ok r5 =>
            rw [h5] at h; dsimp only at h
            have k5 := want_len h5
            cases h6 : ParS.want e [59] r5 with
            | error f => rw [h6] at h; cases h
            | ok r6 => rw [h6] at h; cases h; have := want_len h6; omega
theorem assign_len {a : Nat} {r r' : List Tok} {s : Sm} (h : assignP e a r = .ok (s, r')) : r'.length < r.length := by
  rw [← assign_eq] at h
  unfold bnd bndW at h
  cases hn : nameP e r with
  | error f => rw [hn] at h; cases h
  | ok q =>
    rw [hn] at h; dsimp only at h
    have k2 := name_len (r' := q.2) (t := q.1) hn
    cases h3 : ParS.want e [61] q.2 with
    | error f => rw [h3] at h; cases h
    | ok r3 =>
      rw [h3] at h; dsimp only at h
      have k3 := want_len h3
      unfold sideP bnd at h
      split at h
      · rw [swapQ_eq] at h
        cases h4 : swapP e r3.tail with
        | error f => rw [h4] at h; cases h
        | ok y => rw [h4] at h; cases h; have := swap_len (p := y.1) (r' := y.2) h4; simp only [List.length_tail] at this; omega
      · cases h4 : exprSemi e r3 with
        | error f => rw [h4] at h; cases h
        | ok y => rw [h4] at h; cases h; have := semi_len (x := y.1) (r' := y.2) h4; omega
/-- a reader of blocks does not go back -/
def LeL (bk : List Tok → PR (List Sm)) : Prop := ∀ r l r', bk r = .ok (l, r') → r'.length ≤ r.length
theorem stmtW_len {bk : List Tok → PR (List Sm)} (hb : LeL bk) {r r' : List Tok} {s : Sm} (h : stmtW e bk r = .ok (s, r')) : r'.length < r.length := by
  rw [stmtW_eq] at h
  have hform : ∀ w, formT (here r) w = true → r.tail.length < r.length := fun w hw => tail_lt (by
    unfold formT at hw
    simp only [Bool.and_eq_true, decide_eq_true_eq] at hw
    exact kind_ne hw.2 (by decide))
  split at h
  · rename_i hw
    have := hform _ hw
    rw [← choice_eq] at h
    unfold bnd at h
    cases h1 : condP e r.tail with
    | error f => rw [h1] at h; cases h
    | ok p =>
      rw [h1] at h; dsimp only at h
      have k1 := cond_len (x := p.1) (r' := p.2) h1
      cases h2 : bk p.2 with
      | error f => rw [h2] at h; cases h
      | ok q =>
        rw [h2] at h; dsimp only at h
        have k2 := hb _ q.1 q.2 h2
        unfold elseP bnd at h
        split at h
        · cases h3 : bk q.2.tail with
          | error f => rw [h3] at h; cases h
          | ok y => rw [h3] at h; cases h; have := hb _ y.1 y.2 h3; simp only [List.length_tail] at this; omega
        · cases h; omega
  · split at h
    · rename_i hw
      have := hform _ hw
      unfold loopP at h
      cases h1 : condP e r.tail with
      | error f => rw [h1] at h; cases h
      | ok p =>
        rw [h1] at h; dsimp only at h
        have k1 := cond_len (x := p.1) (r' := p.2) h1
        cases h2 : bk p.2 with
        | error f => rw [h2] at h; cases h
        | ok q => rw [h2] at h; cases h; have := hb _ q.1 q.2 h2; omega
    · split at h
      · rename_i hw
        have := hform _ hw
        unfold guardP at h
        cases h1 : nameP e r.tail with
        | error f => rw [h1] at h; cases h
        | ok p =>
          rw [h1] at h; dsimp only at h
          have k1 := name_len (t := p.1) (r' := p.2) h1
          cases h2 : bk p.2 with
          | error f => rw [h2] at h; cases h
          | ok q => rw [h2] at h; cases h; have := hb _ q.1 q.2 h2; omega
      · split at h
        · rename_i hw
          have := hform _ hw
          unfold printP at h
          cases h2 : exprP e 64 r.tail with
          | error f => rw [h2] at h; cases h
          | ok p =>
            obtain ⟨y, r2⟩ := p
            rw [h2] at h; dsimp only at h
            have k2 := expr_goes _ _ _ _ _ h2
            cases h3 : ParS.want e [59] r2 with
            | error f => rw [h3] at h; cases h
            | ok r3 => rw [h3] at h; cases h; have := want_len h3; omega
        · split at h
          · rename_i hw
            have := hform _ hw
            unfold skipP at h
            cases h3 : ParS.want e [59] r.tail with
            | error f => rw [h3] at h; cases h
            | ok r3 => rw [h3] at h; cases h; have := want_len h3; omega
          · exact assign_len h
theorem restW_len {st : List Tok → PR Sm} (hs : ∀ r s r', st r = .ok (s, r') → r'.length < r.length) : ∀ (k : Nat) (r : List Tok) (l : List Sm) (r' : List Tok), restW st k r = .ok (l, r') → r'.length ≤ r.length
  | 0, r, l, r', h => by simp [restW] at h
  | k + 1, r, l, r', h => by
    simp only [restW] at h
    split at h
    · cases h; simp
    · cases h1 : st r with
      | error f => rw [h1] at h; cases h
      | ok p =>
        rw [h1] at h; dsimp only at h
        have k1 := hs _ p.1 p.2 h1
        cases h2 : restW st k p.2 with
        | error f => rw [h2] at h; cases h
        | ok q => rw [h2] at h; cases h; have := restW_len hs k _ q.1 q.2 h2; omega
theorem stmt_len : ∀ (m : Nat) (r : List Tok) (s : Sm) (r' : List Tok), stmtP e m r = .ok (s, r') → r'.length < r.length
  | 0, r, s, r', h => by
    rw [stmtP_blk] at h
    refine stmtW_len (bk := blkP e 0) (fun r l r' h => ?_) h
    simp only [blkP] at h
    split at h <;> cases h
  | m + 1, r, s, r', h => by
    rw [stmtP_blk] at h
    refine stmtW_len (bk := blkP e (m + 1)) (fun r l r' h => ?_) h
    simp only [blkP] at h
    cases h1 : ParS.want e [123] r with
    | error f => rw [h1] at h; cases h
    | ok r1 =>
      rw [h1] at h; dsimp only at h
      have := want_len h1
      have := restW_len (fun r s r' h => stmt_len m r s r' h) _ _ _ _ h
      omega
/-! ### threads -/
theorem locals_more {k : Nat} {acc l : List Dc} {σ σ1 : RS} (ht : takeB wLocal σ = true) (h : Done (run (listP e (declP e) (σ.r.length + 1)) ⟨σ.r.tail, σ.f⟩) l σ1) : addL acc (run (localsP e (k + 1)) σ) = addL (acc ++ l) (run (localsP e k) σ1) := by
  obtain ⟨ho, hi⟩ := takeB_pos ht
  rw [run_ok (by exact ho)] at h
  rw [run_ok ho]
  simp only [localsP]
  rw [if_pos hi]
  dsimp only at h
  cases hl : listP e (declP e) (σ.r.length + 1) σ.r.tail with
  | error f =>
    rw [hl] at h
    have hb : ¬ σ1.ok := by show ¬ σ1.f.2 = 0; rw [h.1]; exact h.2
    rw [run_bad hb, h.1]; rfl
  | ok p =>
    obtain ⟨l1, r1⟩ := p
    rw [hl] at h
    obtain ⟨rfl, h2, h3⟩ := h
    rw [run_ok h3, h2]
    dsimp only
    cases localsP e k r1 with
    | error f => rfl
    | ok q => simp [addL]
theorem locals_end {k : Nat} {σ : RS} (ht : takeB wLocal σ = false) : Done (run (localsP e (k + 1)) σ) [] σ := by
  by_cases ho : σ.ok
  · rw [takeB_ok ho] at ht
    rw [run_ok ho]
    simp only [localsP]
    rw [if_neg (by simp [ht])]
    exact ⟨rfl, rfl, ho⟩
  · exact .bad ho _
theorem thread_eq (r : List Tok) : bnd (nameP e r) (fun t r => bndW (ParS.want e [123] r) fun r1 => bnd (localsP e (r1.length + 1) r1) fun l r2 => bnd (restP e 63 r2) fun b r3 => .ok ((⟨t.text, l, b, (t.at_ : Int)⟩ : Th), r3)) = threadP e r := by
  unfold threadP bnd bndW
  cases nameP e r with
  | error f => rfl
  | ok p =>
    dsimp only
    cases ParS.want e [123] p.2 with
    | error f => rfl
    | ok r1 =>
      dsimp only
      cases localsP e (r1.length + 1) r1 with
      | error f => rfl
      | ok q => dsimp only; cases restP e 63 q.2 <;> rfl
theorem thread_done {σ σ2 σ3 σ4 : RS} {l : List Dc} {b : List Sm} (h2 : σ2 = wantR e [123] (nameR e σ)) (hl : Done (run (fun r => localsP e (r.length + 1) r) σ2) l σ3) (hb : Done (run (restP e 63) σ3) b σ4) :
    Done (run (threadP e) σ) ⟨nameT σ, l, b, (nameA σ : Int)⟩ σ4 := by
  refine (Done.namedB (fun t r => bndW (ParS.want e [123] r) fun r1 => bnd (localsP e (r1.length + 1) r1) fun l r2 => bnd (restP e 63 r2) fun b r3 => .ok ((⟨t.text, l, b, (t.at_ : Int)⟩ : Th), r3)) (fun t => (⟨t.text, l, b, (t.at_ : Int)⟩ : Th)) (Done.wantB ?_) (fun h => by rw [nameT_pos h, nameA_pos h])).congr thread_eq
  rw [← h2]
  exact hl.bindB (fun l r2 => bnd (restP e 63 r2) fun b r3 => .ok ((⟨(here σ.r).text, l, b, ((here σ.r).at_ : Int)⟩ : Th), r3)) (hb.bindB _ (Done.ret _ _))
/-- threads up to the end of the text -/
def thrAll (e k : Nat) (r : List Tok) : PR (List Th) := match threadsP e k r with
  | .error f => .error f
  | .ok (l, r') => if r'.length = 0 then .ok (l, r') else ParS.fail e 2 r'
theorem thr_more {k : Nat} {acc : List Th} {t : Th} {σ σ2 : RS} (ho : σ.ok) (hr : σ.r ≠ []) (h : Done (run (threadP e) (wantR e wThread σ)) t σ2) : addL acc (run (thrAll e (k + 1)) σ) = addL (acc ++ [t]) (run (thrAll e k) σ2) := by
  rw [run_ok ho]
  by_cases hi : isT wThread σ.r = true
  · have ht : takeB wThread σ = true := by rw [takeB_ok ho]; exact hi
    have hw : wantR e wThread σ = ⟨σ.r.tail, σ.f⟩ := by unfold wantR; rw [if_pos ht]
    rw [hw, run_ok (by exact ho)] at h
    dsimp only at h
    simp only [thrAll, threadsP]
    rw [if_pos hi]
    cases hl : threadP e σ.r.tail with
    | error f =>
      rw [hl] at h
      have hb : ¬ σ2.ok := by show ¬ σ2.f.2 = 0; rw [h.1]; exact h.2
      rw [run_bad hb, h.1]; rfl
    | ok p =>
      obtain ⟨t1, r1⟩ := p
      rw [hl] at h
      obtain ⟨rfl, h2, h3⟩ := h
      rw [run_ok h3, h2]
      simp only [thrAll]
      cases threadsP e k r1 with
      | error f => rfl
      | ok q =>
        dsimp only
        split
        · simp [addL]
        · rfl
  · have ht : takeB wThread σ = false := by rw [takeB_ok ho]; simpa using hi
    have hw : wantR e wThread σ = failR e 2 σ := by unfold wantR; rw [if_neg (by simp [ht])]
    have hn : ¬ (failR e 2 σ).ok := failR_not (by decide)
    rw [hw, run_bad hn] at h
    have hb : ¬ σ2.ok := by show ¬ σ2.f.2 = 0; rw [h.1]; exact h.2
    rw [run_bad hb, h.1, failR_ok ho]
    simp only [thrAll, threadsP]
    rw [if_neg hi]
    have : ¬ σ.r.length = 0 := fun h => hr (List.eq_nil_of_length_eq_zero h)
    dsimp only
    rw [if_neg this]; rfl
theorem thr_end {k : Nat} {σ : RS} (hr : σ.r = []) : Done (run (thrAll e (k + 1)) σ) [] σ := by
  by_cases ho : σ.ok
  · rw [run_ok ho]
    have hi : isT wThread σ.r = false := by rw [hr]; decide
    simp only [thrAll, threadsP, hi, Bool.false_eq_true, if_false]
    rw [hr]
    exact ⟨rfl, hr, ho⟩
  · exact .bad ho _
/-! ### programs -/
def progR (e k : Nat) (r : List Tok) : PR Pg := match progP e k r with
  | .error f => .error f
  | .ok p => .ok (p, [])
def addG (sh lk : List Dc) (p : PR Pg) : PR Pg := match p with
  | .error f => .error f
  | .ok (q, r) => .ok (⟨sh ++ q.shared, lk ++ q.locks, q.threads⟩, r)
theorem addG_nil (p : PR Pg) : addG [] [] p = p := by unfold addG; cases p with | error f => rfl | ok q => rfl
theorem prog_sh {k : Nat} {sh lk l : List Dc} {σ σ1 : RS} (ht : takeB wShared σ = true) (h : Done (run (listP e (initP e) (σ.r.length + 1)) ⟨σ.r.tail, σ.f⟩) l σ1) : addG sh lk (run (progR e (k + 1)) σ) = addG (sh ++ l) lk (run (progR e k) σ1) := by
  obtain ⟨ho, hi⟩ := takeB_pos ht
  rw [run_ok (by exact ho)] at h
  rw [run_ok ho]
  simp only [progR, progP]
  rw [if_pos hi]
  dsimp only at h
  cases hl : listP e (initP e) (σ.r.length + 1) σ.r.tail with
  | error f =>
    rw [hl] at h
    have hb : ¬ σ1.ok := by show ¬ σ1.f.2 = 0; rw [h.1]; exact h.2
    rw [run_bad hb, h.1]; rfl
  | ok p =>
    obtain ⟨l1, r1⟩ := p
    rw [hl] at h
    obtain ⟨rfl, h2, h3⟩ := h
    rw [run_ok h3, h2]
    simp only [progR]
    cases progP e k r1 with
    | error f => rfl
    | ok q => simp [addG]
theorem prog_lk {k : Nat} {sh lk l : List Dc} {σ σ1 : RS} (h0 : takeB wShared σ = false) (ht : takeB wLock σ = true) (h : Done (run (listP e (declP e) (σ.r.length + 1)) ⟨σ.r.tail, σ.f⟩) l σ1) : addG sh lk (run (progR e (k + 1)) σ) = addG sh (lk ++ l) (run (progR e k) σ1) := by
  obtain ⟨ho, hi⟩ := takeB_pos ht
  rw [takeB_ok ho] at h0
  rw [run_ok (by exact ho)] at h
  rw [run_ok ho]
  simp only [progR, progP]
  rw [if_neg (by simp [h0]), if_pos hi]
  dsimp only at h
  cases hl : listP e (declP e) (σ.r.length + 1) σ.r.tail with
  | error f =>
    rw [hl] at h
    have hb : ¬ σ1.ok := by show ¬ σ1.f.2 = 0; rw [h.1]; exact h.2
    rw [run_bad hb, h.1]; rfl
  | ok p =>
    obtain ⟨l1, r1⟩ := p
    rw [hl] at h
    obtain ⟨rfl, h2, h3⟩ := h
    rw [run_ok h3, h2]
    simp only [progR]
    cases progP e k r1 with
    | error f => rfl
    | ok q => simp [addG]
theorem prog_th {k : Nat} {sh lk : List Dc} {l : List Th} {σ σ1 : RS} (h0 : takeB wShared σ = false) (h1 : takeB wLock σ = false) (h : Done (run (thrAll e (σ.r.length + 1)) σ) l σ1) : Done (addG sh lk (run (progR e (k + 1)) σ)) ⟨sh, lk, l⟩ σ1 := by
  by_cases ho : σ.ok
  · rw [takeB_ok ho] at h0 h1
    rw [run_ok ho] at h ⊢
    simp only [progR, progP]
    rw [if_neg (by simp [h0]), if_neg (by simp [h1])]
    unfold thrAll at h
    cases ht : threadsP e (σ.r.length + 1) σ.r with
    | error f => rw [ht] at h; exact h
    | ok p =>
      obtain ⟨l1, r1⟩ := p
      rw [ht] at h
      dsimp only at h ⊢
      by_cases hc : r1.length = 0
      · rw [if_pos hc] at h
        rw [if_pos hc]
        obtain ⟨rfl, h2, h3⟩ := h
        refine ⟨by simp, ?_, h3⟩
        rw [h2]; exact List.eq_nil_of_length_eq_zero hc
      · rw [if_neg hc] at h
        rw [if_neg hc]
        exact h
  · rw [run_bad ho] at h ⊢; exact h
theorem prog_bad {k : Nat} {sh lk : List Dc} {σ : RS} (ho : ¬ σ.ok) (p : Pg) : Done (addG sh lk (run (progR e k) σ)) p σ := by rw [run_bad ho]; exact ⟨rfl, ho⟩
/-- at the end of a program's text -/
theorem prog_done {σ0 σ : RS} {p : Pg} (h0 : σ0.f.2 = 0) {k : Nat} (h : Done (run (progR e k) σ0) p σ) : (∃ f, progP e k σ0.r = .error f ∧ σ.f = f ∧ f.2 ≠ 0) ∨ (progP e k σ0.r = .ok p ∧ σ.ok) := by
  rw [run_ok h0] at h
  unfold progR at h
  cases hx : progP e k σ0.r with
  | error f => rw [hx] at h; exact .inl ⟨f, rfl, h⟩
  | ok q =>
    rw [hx] at h
    obtain ⟨rfl, h2, h3⟩ := h
    exact .inr ⟨rfl, h3⟩
/-! ### how far threads go -/
theorem decl_le {r r' : List Tok} {x : Dc} (h : declP e r = .ok (x, r')) : r'.length < r.length := by
  unfold declP at h
  cases hn : nameP e r with
  | error f => rw [hn] at h; cases h
  | ok p => rw [hn] at h; cases h; exact name_len (t := p.1) (r' := p.2) hn
theorem list_le {one : List Tok → PR Dc} (h1 : ∀ r x r', one r = .ok (x, r') → r'.length < r.length) : ∀ (n : Nat) (r : List Tok) (l : List Dc) (r' : List Tok), listP e one n r = .ok (l, r') → r'.length ≤ r.length
  | 0, r, l, r', h => by simp [listP] at h
  | n + 1, r, l, r', h => by
    simp only [listP] at h
    cases ho : one r with
    | error f => rw [ho] at h; cases h
    | ok p =>
      rw [ho] at h; dsimp only at h
      have hl := h1 _ p.1 p.2 ho
      split at h
      · cases hq : listP e one n p.2.tail with
        | error f => rw [hq] at h; cases h
        | ok q => rw [hq] at h; cases h; have := list_le h1 n _ q.1 q.2 hq; simp only [List.length_tail] at this; omega
      · cases hq : ParS.want e [59] p.2 with
        | error f => rw [hq] at h; cases h
        | ok r2 => rw [hq] at h; cases h; have := want_len hq; omega
theorem locals_le : ∀ (n : Nat) (r : List Tok) (l : List Dc) (r' : List Tok), localsP e n r = .ok (l, r') → r'.length ≤ r.length
  | 0, r, l, r', h => by simp [localsP] at h
  | n + 1, r, l, r', h => by
    simp only [localsP] at h
    split at h
    · cases hq : listP e (declP e) (r.length + 1) r.tail with
      | error f => rw [hq] at h; cases h
      | ok q =>
        rw [hq] at h; dsimp only at h
        have k1 := list_le (fun _ _ _ h => decl_le h) _ _ q.1 q.2 hq
        simp only [List.length_tail] at k1
        cases hz : localsP e n q.2 with
        | error f => rw [hz] at h; cases h
        | ok z => rw [hz] at h; cases h; have := locals_le n _ z.1 z.2 hz; omega
    · cases h; exact Nat.le_refl _
theorem thread_len {r r' : List Tok} {t : Th} (h : threadP e r = .ok (t, r')) : r'.length < r.length := by
  rw [← thread_eq] at h
  unfold bnd bndW at h
  cases hn : nameP e r with
  | error f => rw [hn] at h; cases h
  | ok p =>
    rw [hn] at h; dsimp only at h
    have k1 := name_len (t := p.1) (r' := p.2) hn
    cases hw : ParS.want e [123] p.2 with
    | error f => rw [hw] at h; cases h
    | ok r1 =>
      rw [hw] at h; dsimp only at h
      have k2 := want_len hw
      cases hl : localsP e (r1.length + 1) r1 with
      | error f => rw [hl] at h; cases h
      | ok q =>
        rw [hl] at h; dsimp only at h
        have k3 := locals_le _ _ q.1 q.2 hl
        cases hb : restP e 63 q.2 with
        | error f => rw [hb] at h; cases h
        | ok z =>
          rw [hb] at h; cases h
          have := restW_len (fun r s r' h => stmt_len 63 r s r' h) _ _ z.1 z.2 hb
          omega
end
end ParS


namespace Go.Proofs.YtggnfanphcaamaaGreatDoor
open Go.RowKit Sx LexS ParS _root_.Go.Proofs.Tryz
/-- a new list of declarations -/
def HD (w : World) (l : List Dc) (v : Value) (w' : World) : Prop := ∃ o cc Sq, v = .slice o l.length cc ∧ DcR 52 w' o cc l Sq ∧ Nw w.heap.size Sq ∧ l.length ≤ 1048577
/-- a new row of one expression -/
def HR (w : World) (x : Ex) (v : Value) (w' : World) : Prop := ∃ o cc Sq, v = .slice o 1 cc ∧ ExR 60 w' o cc [x] Sq ∧ Nw w.heap.size Sq
theorem rexpr_any (c : RCtx) (σ : RS) (hr : σ.r <:+ c.ts) (w : World) (hC : RCok c w) (hP : RAt c σ w) : Ret Tryz.prog 82 [.pointer (some ⟨c.rb, 0, none⟩), .int .i64 1, .int .i64 0] w (RRes c σ (exprP c.e 64) w (HE w)) :=
 ((reader_any c σ.r.length).2 64 0 rfl 1 (by omega) (by omega) σ hr (fun _ => Nat.le_refl _) w hC hP).mono fun v w' ⟨x, σ', h, hq⟩ => ⟨x, σ', h.congr (fun r => climbE_expr (unaryP c.e 64) (unary_goes c.e 64) r), hq⟩

theorem rname_any (c : RCtx) (σ : RS) (hr : σ.r <:+ c.ts) (w : World) (hC : RCok c w) (hP : RAt c σ w) : Ret Tryz.prog 49 [.pointer (some ⟨c.rb, 0, none⟩)] w fun v w' => v = .tuple #[str (nameT σ), .int .i64 (nameA σ : Int)] ∧ RAt c (nameR c.e σ) w' ∧ Chg [c.rb] w w' := by
 refine ret_of [_] func49 rfl ntmps49 rfl ?_
 obtain ⟨w0, rfl⟩ : ∃ w0, w0 = w := ⟨_, rfl⟩
 have hP' := hP
 dsimp only [RAt, rcell] at hP
 have st := St.of1 [c.rb] hP
 have h20 := hC.len
 have hl := suf_len hr
 refine sr ?_
 iterate 2 refine ya ?_
 refine et (vk1 0 (sr ?_))
 refine ym ?_
 refine vc_e (e_call [_] rfl rfl call50 rfl (rhere_any c σ hr _ (hC.k1 st.chg) (by exact st.res (i := 0) rfl)) ?_)
 rintro _ w ⟨rfl, cw⟩
 replace st := st.call0 cw
 refine vc_e (e_al (l := [_, _, _, _]) st rfl rfl zeroValue82 rfl ?_)
 intro b4 w hb4 st
 refine vc_e (e_sts (vs := [_, _, _, _]) st 0 rfl rfl rfl rfl rfl sizeOf82 rfl rfl (by (right; assumption)) ?_)
 intro w st; dsimp only [setNth, wr] at st
 refine et (vk2 0 4 (vc_seq (sr ?_)))
 refine ym ?_
 refine vc_e (e_call [_] rfl rfl call16 rfl (rok_any c σ hr _ (hC.k1 st.chg) (by exact st.res (i := 1) rfl)) ?_)
 rintro _ w ⟨rfl, cw⟩
 replace st := st.call0 cw
 refine vy (y_not rfl) ?_
 refine vmb ?_ ?_
 intro hg10
 try simp only [dn] at hg10
 have ho : ¬ σ.ok := by simpa using hg10
 have hb : nameB σ = false := by simp [nameB, ho]
 iterate 3 refine vsk ?_
 refine ypt ?_
 refine et (vk3 0 4 14 ?_)
 refine vc_ift rfl ?_
 refine sr ?_
 refine ym ?_
 refine vc_e (e_call [_, _] rfl rfl call51 rfl (rfail_any c 2 σ hr _ (hC.k1 st.chg) (by exact st.res (i := 1) rfl)) ?_)
 rintro _ w ⟨rfl, hP1, cw⟩
 replace st := St.prs (b := c.rb) st 1 rfl cw (.inl (.head _)) hP1
 dsimp only [setNth] at st
 refine et (vc_keep [] trivial (sr ?_))
 iterate 2 refine ya ?_
 refine et (vk2 2 3 (vc_ret (vq_then_ret ?_)))
 refine vq_ret2 st (.inl rfl) results49 (.tmp rfl) (.tmp rfl) ?_
 refine ⟨_, rfl, ?_⟩
 rw [nameT_neg hb, nameA_neg hb]
 refine ⟨rfl, ?_, st.chg⟩
 unfold nameR
 rw [if_neg (by simp [hb])]
 rotate_left
 focus
  intro hg10
  try simp only [dn] at hg10
  have ho : σ.ok := by simpa using hg10
  refine vy (y_fa0 rfl underlying82 rfl rfl sizeOf80 rfl) ?_
  refine yl st 0 isAgg80 ?_
  refine vy (y_nei rfl rfl) ?_
  refine ypf ?_
  refine et (vk3 0 4 14 ?_)
  refine vif ?_ ?_
  intro hc14
  try simp only [dn] at hc14
  have hk : ¬ (here σ.r).kind = 1 := by rw [hereE_kind] at hc14; omega
  have hb : nameB σ = false := by simp [nameB, hk]
  refine sr ?_
  refine ym ?_
  refine vc_e (e_call [_, _] rfl rfl call51 rfl (rfail_any c 2 σ hr _ (hC.k1 st.chg) (by exact st.res (i := 1) rfl)) ?_)
  rintro _ w ⟨rfl, hP1, cw⟩
  replace st := St.prs (b := c.rb) st 1 rfl cw (.inl (.head _)) hP1
  dsimp only [setNth] at st
  refine et (vc_keep [] trivial (sr ?_))
  iterate 2 refine ya ?_
  refine et (vk2 2 3 (vc_ret (vq_then_ret ?_)))
  refine vq_ret2 st (.inl rfl) results49 (.tmp rfl) (.tmp rfl) ?_
  refine ⟨_, rfl, ?_⟩
  rw [nameT_neg hb, nameA_neg hb]
  refine ⟨rfl, ?_, st.chg⟩
  unfold nameR
  rw [if_neg (by simp [hb])]
  rotate_left
  intro hc14
  try simp only [dn] at hc14
  have hk : (here σ.r).kind = 1 := by rw [hereE_kind] at hc14; omega
  have hb : nameB σ = true := by simp [nameB, hk, ho]
  have hne := kind_ne hk (by decide)
  have htl := tail_lt hne
  have ht2 : σ.r.tail.length = σ.r.length - 1 := List.length_tail
  refine kt (vk2 0 4 (sr ?_))
  refine ym ?_
  refine ynk ?_
  refine yfz 1 underlying47 sizeOf3 ?_
  refine yl st 1 isAgg3 ?_
  refine vy (y_add rfl rfl (by omega : _ = ((c.ts.length - σ.r.tail.length : Nat) : Int)) (by omega) (by omega)) ?_
  refine ynk ?_
  refine yfz 1 underlying47 sizeOf3 ?_
  refine vc_e (e_st st 1 rfl rfl rfl rfl sizeOf3 rfl rfl (by (left; simp)) ?_)
  intro w st; dsimp only [setNth, wr] at st
  refine et (vk1 4 (vc_seq ?_))
  refine vc_draw Tryz.mixed [(0, true), (1, true), (2, true), (3, true), (4, true), (5, true)] (fun w => St _ _ _ w) st (by kernel_rfl) (by repeat (first | exact okQ_noPan | exact okQ_body | exact okQ_bodyS | refine okQ_then ?_ | refine okQ_block ?_)) rfl (by kernel_rfl) ?_
  intro w cd; replace st := st.call0 cd; clear cd
  have hS := st
  refine pfz hS 1 underlying82 sizeOf9 ?_
  refine pld hS 0 isAgg9 ?_
  refine pfz hS 3 underlying82 sizeOf3 ?_
  refine pld hS 0 isAgg3 ?_
  iterate 2 refine vp_take rfl rfl rfl hS (fun w st => y_as rfl) ?_
  refine vp_end (vq_then (vk2 2 3 (vc_ret ?_)))
  refine vq_ret2 st (.inl rfl) results49 (.tmp rfl) (.tmp rfl) ?_
  refine ⟨_, rfl, ?_⟩
  rw [nameT_pos hb, nameA_pos hb]
  refine ⟨by rw [hereE_cons hne], ?_, st.chg⟩
  unfold nameR
  rw [if_pos hb]
 all_goals
  exact (by exact st.res (i := 1) rfl)
theorem rnames_any (n : Nat) (c : RCtx) (σ : RS) (hr : σ.r <:+ c.ts) (w : World) (hC : RCok c w) (hP : RAt c σ w) (hn : σ.r.length < n) : Ret Tryz.prog 33 [.pointer (some ⟨c.rb, 0, none⟩)] w (RRes c σ (listP c.e (declP c.e) n) w (HD w)) := by
 refine ret_of [_] func33 rfl ntmps33 rfl ?_
 obtain ⟨w0, rfl⟩ : ∃ w0, w0 = w := ⟨_, rfl⟩
 have hP' := hP
 dsimp only [RAt, rcell] at hP
 have st := St.of1 [c.rb] hP
 have h20 := hC.len
 have hl := suf_len hr
 replace st := st.ownNil 52 3
 refine sr ?_
 refine ya ?_
 refine et (vk1 0 (sr ?_))
 refine ya ?_
 refine et (vk2 0 3 (vc_seq (vc_block ?_)))
 refine vc_loop (w0 := w0) (M := [c.rb]) (fun (y : List Dc × RS × Nat × Option Addr × Nat) => [(0, .pointer (some ⟨c.rb, 0, none⟩)), (3, .slice y.2.2.2.1 y.1.length y.2.2.2.2)]) (fun (y : List Dc × RS × Nat × Option Addr × Nat) => [.own (.slice y.2.2.2.1 y.1.length y.2.2.2.2) 52 3 y.1.length (y.1.flatMap dcL), .blk c.rb (.cells (rcell c y.2.1).toArray c.T (0, 0))]) (fun (y : List Dc × RS × Nat × Option Addr × Nat) _ => y.2.1.r <:+ σ.r ∧ y.1.length + y.2.1.r.length ≤ σ.r.length ∧ y.2.1.r.length < y.2.2.1 ∧ run (listP c.e (declP c.e) n) σ = addL y.1 (run (listP c.e (declP c.e) y.2.2.1) y.2.1)) (fun (y : List Dc × RS × Nat × Option Addr × Nat) => y.2.1.r.length) ([], σ, n, none, 0) ⟨rfl, rfl, trivial⟩ st ⟨List.suffix_refl _, by simp, hn, (addL_nil _).symm⟩ ?_
 clear st
 rintro ⟨acc, σ1, k, o, cc⟩ w ⟨hsf1, hl1, hk1, hG⟩ st
 dsimp only at hsf1 hl1 hk1 hG st
 have hr1 := hsf1.trans hr
 obtain ⟨k, rfl⟩ : ∃ j, k = j + 1 := ⟨k - 1, by omega⟩
 have h40 := suf_len hr1
 refine vc_seq (sr ?_)
 refine ym ?_
 refine vc_e (e_call [_] rfl rfl call16 rfl (rok_any c σ1 hr1 _ (hC.k1 st.chg) (by exact st.res (i := 1) rfl)) ?_)
 rintro _ w ⟨rfl, cw⟩
 replace st := st.call0 cw
 refine et (vk3 0 3 7 ?_)
 refine vif ?_ ?_
 ·intro hc7
  try simp only [dn] at hc7
  have ho : σ1.ok := by simpa using hc7
  refine kt (vk2 0 3 (vc_block (sr ?_)))
  refine ym ?_
  refine vc_e (e_call [_] rfl rfl call49 rfl (rname_any c σ1 hr1 _ (hC.k1 st.chg) (by exact st.res (i := 1) rfl)) ?_)
  rintro _ w ⟨rfl, hP1, cw⟩
  replace st := St.prs (b := c.rb) st 1 rfl cw (.inl (.head _)) hP1
  dsimp only [setNth] at st
  have hd := decl_done (e := c.e) σ1
  have hsf2 : (nameR c.e σ1).r <:+ σ1.r := nameR_suf
  have hr2 := hsf2.trans hr1
  have h41 := suf_len hsf2
  refine ym ?_
  iterate 2 refine vy (y_ext rfl rfl) ?_
  iterate 2 refine ya ?_
  refine et (vk4 0 3 4 5 (sr ?_))
  iterate 3 refine ym ?_
  refine vy (y_bld (.agg #[_, _, _]) [(0, _), (2, _)] rfl (fun w => by simp [Instr.build, go_sem] <;> repeat' constructor)) ?_
  refine vc_e (e_bs1 (l := [_, _, _]) st rfl rfl rfl rfl underlying22 sizeOf52 rfl rfl rfl zeroValue52 ?_)
  intro b17 w hb17 st
  refine vc_e (e_app (bytes := 32) st 1 0 rfl rfl rfl rfl rfl rfl underlying22 Tryz.info52 rfl rfl rfl rfl rfl (by simp) rfl rfl (by unfold maxLen; omega) (by omega) ?_)
  intro oaQ capQ w st; dsimp only [setNth] at st
  replace st := st.pick [1, 2] rfl (by decide)
  refine ya ?_
  refine et (vk2 0 3 (sr ?_))
  refine ym ?_
  refine vc_e (e_call [_, _] rfl rfl call31 rfl (rtake_any c [44] (nameR c.e σ1) hr2 _ (hC.k1 st.chg) (by exact st.res (i := 1) rfl)) ?_)
  rintro _ w ⟨rfl, hP1, cw⟩
  replace st := St.prs (b := c.rb) st 1 rfl cw (.inl (.head _)) hP1
  dsimp only [setNth] at st
  refine vy (y_not rfl) ?_
  refine et (vk3 0 3 21 ?_)
  refine vif ?_ ?_
  ·intro hc21
   try simp only [dn] at hc21
   have hF : takeB [44] (nameR c.e σ1) = false := by simpa using hc21
   rw [takeR_neg hF] at st
   refine vc_exit (vq_block_other rfl (vq_then_exit (vq_block_exit (vq_then (vk2 0 3 (sr ?_))))))
   refine ym ?_
   refine vc_e (e_call [_, _] rfl rfl call52 rfl (rwant_any c [59] (nameR c.e σ1) hr2 _ (hC.k1 st.chg) (by exact st.res (i := 1) rfl)) ?_)
   rintro _ w ⟨rfl, hP1, cw⟩
   replace st := St.prs (b := c.rb) st 1 rfl cw (.inl (.head _)) hP1
   dsimp only [setNth] at st
   refine et (vk1 3 (sr ?_))
   refine ym ?_
   refine ya ?_
   refine et (vk1 2 (vc_ret ?_))
   refine vq_ret1 st (.inl rfl) results33 (.tmp rfl) ?_
   refine ⟨_, rfl, ?_⟩
   have hown := st.ownNw (i := 0) rfl
   exact ⟨acc ++ [⟨nameT σ1, 0, (nameA σ1 : Int)⟩], wantR c.e [59] (nameR c.e σ1), by rw [hG]; exact (list_last hd hF).add, wantR_suf.trans (hsf2.trans hsf1), (by exact st.res (i := 1) rfl), st.chg, oaQ, capQ, obk oaQ, by simp, ⟨by simpa [dcL] using hown.1, rfl⟩, hown.2, by simp; omega⟩
  intro hc21
  try simp only [dn] at hc21
  have hT : takeB [44] (nameR c.e σ1) = true := by simpa using hc21
  have htl := tail_lt (isT_ne (takeB_pos hT).2)
  rw [takeR_pos hT] at st
  refine vc_code_skip (vq_block ?_)
  refine vq_again (acc ++ [⟨nameT σ1, 0, (nameA σ1 : Int)⟩], ⟨(nameR c.e σ1).r.tail, (nameR c.e σ1).f⟩, k, oaQ, capQ)  ⟨rfl, by simp [find, put], trivial⟩ (by simpa [dcL] using st) ?_ ?_
  ·exact ⟨(List.tail_suffix _).trans (hsf2.trans hsf1), by simp; simp at htl; omega, by dsimp only; omega, hG.trans (list_more hd hT)⟩
  dsimp only; omega
 intro hc7
 try simp only [dn] at hc7
 have ho : ¬ σ1.ok := by simpa using hc7
 refine vc_exit (vq_then_exit (vq_then_exit (vq_block_exit (vq_then (vk2 0 3 (sr ?_))))))
 refine ym ?_
 refine vc_e (e_call [_, _] rfl rfl call52 rfl (rwant_any c [59] σ1 hr1 _ (hC.k1 st.chg) (by exact st.res (i := 1) rfl)) ?_)
 rintro _ w ⟨rfl, hP1, cw⟩
 replace st := St.prs (b := c.rb) st 1 rfl cw (.inl (.head _)) hP1
 dsimp only [setNth] at st
 refine et (vk1 3 (sr ?_))
 refine ym ?_
 refine ya ?_
 refine et (vk1 2 (vc_ret ?_))
 refine vq_ret1 st (.inl rfl) results33 (.tmp rfl) ?_
 refine ⟨_, rfl, ?_⟩
 have hown := st.ownNw (i := 0) rfl
 exact ⟨acc, wantR c.e [59] σ1, by rw [hG]; exact (list_bad ho).add_nil, wantR_suf.trans hsf1, (by exact st.res (i := 1) rfl), st.chg, o, cc, obk o, rfl, ⟨hown.1, rfl⟩, hown.2, by have := suf_len hr; omega⟩
set_option maxHeartbeats 1000000 in
theorem rshared_any (n : Nat) (c : RCtx) (σ : RS) (hr : σ.r <:+ c.ts) (w : World) (hC : RCok c w) (hP : RAt c σ w) (hn : σ.r.length < n) : Ret Tryz.prog 32 [.pointer (some ⟨c.rb, 0, none⟩)] w (RRes c σ (listP c.e (initP c.e) n) w (HD w)) := by
 refine ret_of [_] func32 rfl ntmps32 rfl ?_
 obtain ⟨w0, rfl⟩ : ∃ w0, w0 = w := ⟨_, rfl⟩
 have hP' := hP
 dsimp only [RAt, rcell] at hP
 have st := St.of1 [c.rb] hP
 have h20 := hC.len
 have hl := suf_len hr
 replace st := st.ownNil 52 3
 refine sr ?_
 refine ya ?_
 refine et (vk1 0 (sr ?_))
 refine ya ?_
 refine et (vk2 0 3 (vc_seq (vc_block ?_)))
 refine vc_loop (w0 := w0) (M := [c.rb]) (fun (y : List Dc × RS × Nat × Option Addr × Nat) => [(0, .pointer (some ⟨c.rb, 0, none⟩)), (3, .slice y.2.2.2.1 y.1.length y.2.2.2.2)]) (fun (y : List Dc × RS × Nat × Option Addr × Nat) => [.own (.slice y.2.2.2.1 y.1.length y.2.2.2.2) 52 3 y.1.length (y.1.flatMap dcL), .blk c.rb (.cells (rcell c y.2.1).toArray c.T (0, 0))]) (fun (y : List Dc × RS × Nat × Option Addr × Nat) _ => y.2.1.r <:+ σ.r ∧ y.1.length + y.2.1.r.length ≤ σ.r.length ∧ y.2.1.r.length < y.2.2.1 ∧ run (listP c.e (initP c.e) n) σ = addL y.1 (run (listP c.e (initP c.e) y.2.2.1) y.2.1)) (fun (y : List Dc × RS × Nat × Option Addr × Nat) => y.2.1.r.length) ([], σ, n, none, 0) ⟨rfl, rfl, trivial⟩ st ⟨List.suffix_refl _, by simp, hn, (addL_nil _).symm⟩ ?_
 clear st
 rintro ⟨acc, σ1, k, o, cc⟩ w ⟨hsf1, hl1, hk1, hG⟩ st
 dsimp only at hsf1 hl1 hk1 hG st
 have hr1 := hsf1.trans hr
 obtain ⟨k, rfl⟩ : ∃ j, k = j + 1 := ⟨k - 1, by omega⟩
 have h40 := suf_len hr1
 refine vc_seq (sr ?_)
 refine ym ?_
 refine vc_e (e_call [_] rfl rfl call16 rfl (rok_any c σ1 hr1 _ (hC.k1 st.chg) (by exact st.res (i := 1) rfl)) ?_)
 rintro _ w ⟨rfl, cw⟩
 replace st := st.call0 cw
 refine et (vk3 0 3 10 ?_)
 refine vif ?_ ?_
 ·intro hc10
  try simp only [dn] at hc10
  have ho : σ1.ok := by simpa using hc10
  refine kt (vk2 0 3 (vc_block (sr ?_)))
  refine ym ?_
  refine vc_e (e_call [_] rfl rfl call49 rfl (rname_any c σ1 hr1 _ (hC.k1 st.chg) (by exact st.res (i := 1) rfl)) ?_)
  rintro _ w ⟨rfl, hP1, cw⟩
  replace st := St.prs (b := c.rb) st 1 rfl cw (.inl (.head _)) hP1
  dsimp only [setNth] at st
  have hsf2 : (nameR c.e σ1).r <:+ σ1.r := nameR_suf
  have hr2 := hsf2.trans hr1
  have h41 := suf_len hsf2
  obtain ⟨σN, hσN⟩ : ∃ σN, nameR c.e σ1 = σN := ⟨_, rfl⟩
  rw [hσN] at hsf2 hr2 h41 st
  refine ym ?_
  iterate 2 refine vy (y_ext rfl rfl) ?_
  iterate 2 refine ya ?_
  refine et (vk4 0 3 4 5 (sr ?_))
  iterate 2 refine ym ?_
  refine vy (y_bld (.agg #[_, _, _]) [(0, _), (2, _)] rfl (fun w => by simp [Instr.build, go_sem] <;> repeat' constructor)) ?_
  refine vc_e (e_al (l := [_, _, _]) st rfl rfl zeroValue52 rfl ?_)
  intro b6 w hb6 st
  refine vc_e (e_sts (vs := [_, _, _]) st 0 rfl rfl rfl rfl rfl sizeOf52 rfl rfl (by (right; assumption)) ?_)
  intro w st; dsimp only [setNth, wr] at st
  refine et (vk3 0 3 6 ?_)
  refine vc_cut (w0 := w0) (M := [c.rb]) (fun (x : Dc × RS) => [(0, .pointer (some ⟨c.rb, 0, none⟩)), (3, .slice o acc.length cc), (6, .pointer (some ⟨b6, 0, none⟩))]) (fun (x : Dc × RS) => [.blk b6 (.cells (dcL x.1).toArray 52 (0, 0)), .own (.slice o acc.length cc) 52 3 acc.length (acc.flatMap dcL), .blk c.rb (.cells (rcell c x.2).toArray c.T (0, 0))]) (fun (x : Dc × RS) _ => Done (run (initP c.e) σ1) x.1 x.2 ∧ x.2.r <:+ σ1.r ∧ x.2.r.length ≤ σ1.r.length) ?_ ?_
  ·refine vc_seq ?_
   refine vc_region ?_
   refine ym ?_
   refine vc_e (e_call [_, _] rfl rfl call31 rfl (rtake_any c [61] σN hr2 _ (hC.k1 st.chg) (by exact st.res (i := 2) rfl)) ?_)
   rintro _ w ⟨rfl, hP1, cw⟩
   replace st := St.prs (b := c.rb) st 2 rfl cw (.inl (.head _)) hP1
   dsimp only [setNth] at st
   refine et (vk4 0 3 6 20 ?_)
   refine vif ?_ ?_
   ·intro hc20
    try simp only [dn] at hc20
    have hT61 : takeB [61] σN = true := hc20
    have hoN := (takeB_pos hT61).1
    have htl61 := tail_lt (isT_ne (takeB_pos hT61).2)
    rw [takeR_pos hT61] at st
    obtain ⟨σA, hσA⟩ : ∃ σA, (RS.mk σN.r.tail σN.f) = σA := ⟨_, rfl⟩
    have hrA : σA.r <:+ c.ts := by rw [← hσA]; exact (List.tail_suffix _).trans hr2
    have hlA : σA.r.length < σN.r.length := by rw [← hσA]; exact htl61
    have hsfA : σA.r <:+ σ1.r := by rw [← hσA]; exact (List.tail_suffix _).trans hsf2
    have hoA : σA.ok := by rw [← hσA]; exact hoN
    rw [hσA] at st
    refine sr ?_
    refine ym ?_
    refine vc_e (e_call [_, _] rfl rfl call31 rfl (rtake_any c [45] σA hrA _ (hC.k1 st.chg) (by exact st.res (i := 2) rfl)) ?_)
    rintro _ w ⟨rfl, hP1, cw⟩
    replace st := St.prs (b := c.rb) st 2 rfl cw (.inl (.head _)) hP1
    dsimp only [setNth] at st
    obtain ⟨σB, hσB⟩ : ∃ σB, takeR [45] σA = σB := ⟨_, rfl⟩
    have hsfB : σB.r <:+ σA.r := by rw [← hσB]; exact takeR_suf
    have hrB := hsfB.trans hrA
    have hlB := suf_len hsfB
    have hoB : σB.ok := by rw [← hσB]; unfold takeR; split <;> exact hoA
    obtain ⟨mB, hmB⟩ : ∃ mB, takeB [45] σA = mB := ⟨_, rfl⟩
    rw [hmB]
    rw [hσB] at st
    have hIN : ∀ σ4, ((here σB.r).kind = 3 ∧ σ4 = ⟨σB.r.tail, σB.f⟩) ∨ ((here σB.r).kind ≠ 3 ∧ σ4 = failR c.e 2 σB) → Done (run (initP c.e) σ1) ⟨nameT σ1, if mB = true then -((here σB.r).word : Int) else ((here σB.r).word : Int), (nameA σ1 : Int)⟩ σ4 := fun σ4 h4 => init_word (by rw [hσN]; exact hT61) (by rw [hσN, hσA]; exact hmB) (by rw [hσN, hσA]; exact hσB.symm) h4
    refine ya ?_
    refine et (vk4 0 3 6 7 (sr ?_))
    refine ym ?_
    refine vc_e (e_call [_] rfl rfl call50 rfl (rhere_any c σB hrB _ (hC.k1 st.chg) (by exact st.res (i := 2) rfl)) ?_)
    rintro _ w ⟨rfl, cw⟩
    replace st := st.call0 cw
    have hwd := here_wd hC.wd hrB
    refine vc_e (e_al (l := [_, _, _, _]) st rfl rfl zeroValue82 rfl ?_)
    intro b8 w hb8 st
    refine vc_e (e_sts (vs := [_, _, _, _]) st 0 rfl rfl rfl rfl rfl sizeOf82 rfl rfl (by (right; assumption)) ?_)
    intro w st; dsimp only [setNth, wr] at st
    refine et (vk5 0 3 6 7 8 (vc_seq (sr ?_)))
    refine vy (y_fa0 rfl underlying82 rfl rfl sizeOf80 rfl) ?_
    refine yl st 0 isAgg80 ?_
    refine vy (y_nei rfl rfl) ?_
    refine et (vk6 0 3 6 7 8 27 ?_)
    refine vif ?_ ?_
    ·intro hc27
     try simp only [dn] at hc27
     have hk3 : ¬ (here σB.r).kind = 3 := by rw [hereE_kind] at hc27; omega
     refine vc_region ?_
     refine ym ?_
     refine vc_e (e_call [_, _] rfl rfl call51 rfl (rfail_any c 2 σB hrB _ (hC.k1 st.chg) (by exact st.res (i := 3) rfl)) ?_)
     rintro _ w ⟨rfl, hP1, cw⟩
     replace st := St.prs (b := c.rb) st 3 rfl cw (.inl (.head _)) hP1
     dsimp only [setNth] at st
     refine et (vk5 0 3 6 7 8 (sr ?_))
     refine yfz 2 underlying82 sizeOf2 ?_
     refine yl st 0 isAgg2 ?_
     refine yfz 1 underlying52 sizeOf2 ?_
     refine vc_e (e_st st 1 rfl rfl rfl rfl sizeOf2 rfl rfl (by (right; assumption)) ?_)
     intro w st; dsimp only [setNth, wr] at st
     refine et (vk5 0 3 6 7 8 (sr ?_))
     refine ym ?_
     refine et (vk5 0 3 6 8 42 ?_)
     refine vif ?_ ?_
     ·intro hc42
      try simp only [dn] at hc42
      refine vc_region ?_
      refine yfz 2 underlying82 sizeOf2 ?_
      refine yl st 0 isAgg2 ?_
      refine vy (y_sub rfl rfl (Int.zero_sub _) (by rw [hereE_word]; omega) (by rw [hereE_word]; omega)) ?_
      refine yfz 1 underlying52 sizeOf2 ?_
      refine vc_e (e_st st 1 rfl rfl rfl rfl sizeOf2 rfl rfl (by (right; assumption)) ?_)
      intro w st; dsimp only [setNth, wr] at st
      refine vc_end ?_
      refine vq_meet (⟨nameT σ1, -((here σB.r).word : Int), (nameA σ1 : Int)⟩, failR c.e 2 σB) ⟨rfl, rfl, rfl, trivial⟩ (by rw [hereE_word] at st; exact st.pick [1, 2, 3] rfl (by decide)) ?_
      ·have h := hIN _ (.inr ⟨hk3, rfl⟩)
       rw [hc42] at h
       exact ⟨h, by rw [failR_r]; exact hsfB.trans hsfA, by rw [failR_r]; omega⟩
     intro hc42
     try simp only [dn] at hc42
     refine vc_code_skip ?_
     refine vq_meet (⟨nameT σ1, ((here σB.r).word : Int), (nameA σ1 : Int)⟩, failR c.e 2 σB) ⟨rfl, rfl, rfl, trivial⟩ (by rw [hereE_word] at st; exact st.pick [1, 2, 3] rfl (by decide)) ?_
     ·have h := hIN _ (.inr ⟨hk3, rfl⟩)
      rw [hc42] at h
      exact ⟨h, by rw [failR_r]; exact hsfB.trans hsfA, by rw [failR_r]; omega⟩
    intro hc27
    try simp only [dn] at hc27
    have hk3 : (here σB.r).kind = 3 := by rw [hereE_kind] at hc27; omega
    have hne := kind_ne hk3 (by decide)
    have htl := tail_lt hne
    have ht2 : σB.r.tail.length = σB.r.length - 1 := List.length_tail
    have hlts := suf_len hrB
    refine sr ?_
    refine ym ?_
    refine vc_e (e_call [_] rfl rfl call16 rfl (rok_any c σB hrB _ (hC.k1 st.chg) (by exact st.res (i := 3) rfl)) ?_)
    rintro _ w ⟨rfl, cw⟩
    replace st := st.call0 cw
    refine et (vk6 0 3 6 7 8 31 ?_)
    refine vif ?_ ?_
    ·intro hc31
     try simp only [dn] at hc31
     refine vc_region ?_
     refine ym ?_
     refine ynk ?_
     refine yfz 1 underlying47 sizeOf3 ?_
     refine yl st 3 isAgg3 ?_
     refine vy (y_add rfl rfl (by omega : _ = ((c.ts.length - σB.r.tail.length : Nat) : Int)) (by omega) (by omega)) ?_
     refine ynk ?_
     refine yfz 1 underlying47 sizeOf3 ?_
     refine vc_e (e_st st 3 rfl rfl rfl rfl sizeOf3 rfl rfl (by (left; simp)) ?_)
     intro w st; dsimp only [setNth, wr] at st
     refine et (vk5 0 3 6 7 8 (sr ?_))
     refine yfz 2 underlying82 sizeOf2 ?_
     refine yl st 0 isAgg2 ?_
     refine yfz 1 underlying52 sizeOf2 ?_
     refine vc_e (e_st st 1 rfl rfl rfl rfl sizeOf2 rfl rfl (by (right; assumption)) ?_)
     intro w st; dsimp only [setNth, wr] at st
     refine et (vk5 0 3 6 7 8 (sr ?_))
     refine ym ?_
     refine et (vk5 0 3 6 8 42 ?_)
     refine vif ?_ ?_
     ·intro hc42
      try simp only [dn] at hc42
      refine vc_region ?_
      refine yfz 2 underlying82 sizeOf2 ?_
      refine yl st 0 isAgg2 ?_
      refine vy (y_sub rfl rfl (Int.zero_sub _) (by rw [hereE_word]; omega) (by rw [hereE_word]; omega)) ?_
      refine yfz 1 underlying52 sizeOf2 ?_
      refine vc_e (e_st st 1 rfl rfl rfl rfl sizeOf2 rfl rfl (by (right; assumption)) ?_)
      intro w st; dsimp only [setNth, wr] at st
      refine vc_end ?_
      refine vq_meet (⟨nameT σ1, -((here σB.r).word : Int), (nameA σ1 : Int)⟩, ⟨σB.r.tail, σB.f⟩) ⟨rfl, rfl, rfl, trivial⟩ (by rw [hereE_word] at st; exact st.pick [1, 2, 3] rfl (by decide)) ?_
      ·have h := hIN _ (.inl ⟨hk3, rfl⟩)
       rw [hc42] at h
       exact ⟨h, (List.tail_suffix _).trans (hsfB.trans hsfA), by dsimp only; omega⟩
     intro hc42
     try simp only [dn] at hc42
     refine vc_code_skip ?_
     refine vq_meet (⟨nameT σ1, ((here σB.r).word : Int), (nameA σ1 : Int)⟩, ⟨σB.r.tail, σB.f⟩) ⟨rfl, rfl, rfl, trivial⟩ (by rw [hereE_word] at st; exact st.pick [1, 2, 3] rfl (by decide)) ?_
     ·have h := hIN _ (.inl ⟨hk3, rfl⟩)
      rw [hc42] at h
      exact ⟨h, (List.tail_suffix _).trans (hsfB.trans hsfA), by dsimp only; omega⟩
    intro hc31
    exfalso; simp [hoB] at hc31
   intro hc20
   try simp only [dn] at hc20
   have hF61 : takeB [61] σN = false := hc20
   rw [takeR_neg hF61] at st
   refine vc_code_skip ?_
   refine vq_meet (⟨nameT σ1, 0, (nameA σ1 : Int)⟩, σN) ⟨rfl, rfl, rfl, trivial⟩ (st.pick [0, 1, 2] rfl (by decide)) ?_
   ·have h := init_none (e := c.e) (σ := σ1) (by rw [hσN]; exact hF61)
    rw [hσN] at h
    exact ⟨h, hsf2, h41⟩
  clear st
  rintro ⟨d, σ2⟩ w ⟨hd, hsf3, hl3⟩ st
  dsimp only at hd hsf3 hl3 st
  have hr3 := hsf3.trans hr1
  refine sr ?_
  refine ym ?_
  refine yla st 0 [_, _, _] isAgg52 sizeOf52 ?_
  refine vc_e (e_bs1 (l := [_, _, _]) st rfl rfl rfl rfl underlying22 sizeOf52 rfl rfl rfl zeroValue52 ?_)
  intro b49 w hb49 st
  refine vc_e (e_app (bytes := 32) st 2 0 rfl rfl rfl rfl rfl rfl underlying22 Tryz.info52 rfl rfl rfl rfl rfl (by simp) rfl rfl (by unfold maxLen; omega) (by omega) ?_)
  intro oaQ capQ w st; dsimp only [setNth] at st
  replace st := st.pick [2, 3] rfl (by decide)
  refine ya ?_
  refine et (vk2 0 3 (sr ?_))
  refine ym ?_
  refine vc_e (e_call [_, _] rfl rfl call31 rfl (rtake_any c [44] σ2 hr3 _ (hC.k1 st.chg) (by exact st.res (i := 1) rfl)) ?_)
  rintro _ w ⟨rfl, hP1, cw⟩
  replace st := St.prs (b := c.rb) st 1 rfl cw (.inl (.head _)) hP1
  dsimp only [setNth] at st
  refine vy (y_not rfl) ?_
  refine et (vk3 0 3 53 ?_)
  refine vif ?_ ?_
  ·intro hc53
   try simp only [dn] at hc53
   have hF : takeB [44] σ2 = false := by simpa using hc53
   rw [takeR_neg hF] at st
   refine vc_exit (vq_block_other rfl (vq_then_exit (vq_block_exit (vq_then (vk2 0 3 (sr ?_))))))
   refine ym ?_
   refine vc_e (e_call [_, _] rfl rfl call52 rfl (rwant_any c [59] σ2 hr3 _ (hC.k1 st.chg) (by exact st.res (i := 1) rfl)) ?_)
   rintro _ w ⟨rfl, hP1, cw⟩
   replace st := St.prs (b := c.rb) st 1 rfl cw (.inl (.head _)) hP1
   dsimp only [setNth] at st
   refine et (vk1 3 (sr ?_))
   refine ym ?_
   refine ya ?_
   refine et (vk1 2 (vc_ret ?_))
   refine vq_ret1 st (.inl rfl) results32 (.tmp rfl) ?_
   refine ⟨_, rfl, ?_⟩
   have hown := st.ownNw (i := 0) rfl
   exact ⟨acc ++ [d], wantR c.e [59] σ2, by rw [hG]; exact (list_last hd hF).add, wantR_suf.trans (hsf3.trans hsf1), (by exact st.res (i := 1) rfl), st.chg, oaQ, capQ, obk oaQ, by simp, ⟨by simpa [dcL] using hown.1, rfl⟩, hown.2, by simp; omega⟩
  intro hc53
  try simp only [dn] at hc53
  have hT : takeB [44] σ2 = true := by simpa using hc53
  have htl := tail_lt (isT_ne (takeB_pos hT).2)
  rw [takeR_pos hT] at st
  refine vc_code_skip (vq_block ?_)
  refine vq_again (acc ++ [d], ⟨σ2.r.tail, σ2.f⟩, k, oaQ, capQ)  ⟨rfl, by simp [find, put], trivial⟩ (by simpa [dcL] using st) ?_ ?_
  ·exact ⟨(List.tail_suffix _).trans (hsf3.trans hsf1), by simp; simp at htl; omega, by dsimp only; omega, hG.trans (list_more hd hT)⟩
  dsimp only; omega
 intro hc10
 try simp only [dn] at hc10
 have ho : ¬ σ1.ok := by simpa using hc10
 refine vc_exit (vq_then_exit (vq_then_exit (vq_block_exit (vq_then (vk2 0 3 (sr ?_))))))
 refine ym ?_
 refine vc_e (e_call [_, _] rfl rfl call52 rfl (rwant_any c [59] σ1 hr1 _ (hC.k1 st.chg) (by exact st.res (i := 1) rfl)) ?_)
 rintro _ w ⟨rfl, hP1, cw⟩
 replace st := St.prs (b := c.rb) st 1 rfl cw (.inl (.head _)) hP1
 dsimp only [setNth] at st
 refine et (vk1 3 (sr ?_))
 refine ym ?_
 refine ya ?_
 refine et (vk1 2 (vc_ret ?_))
 refine vq_ret1 st (.inl rfl) results32 (.tmp rfl) ?_
 refine ⟨_, rfl, ?_⟩
 have hown := st.ownNw (i := 0) rfl
 exact ⟨acc, wantR c.e [59] σ1, by rw [hG]; exact (list_bad ho).add_nil, wantR_suf.trans hsf1, (by exact st.res (i := 1) rfl), st.chg, o, cc, obk o, rfl, ⟨hown.1, rfl⟩, hown.2, by have := suf_len hr; omega⟩
theorem rround_any (c : RCtx) (σ : RS) (hr : σ.r <:+ c.ts) (w : World) (hC : RCok c w) (hP : RAt c σ w) : Ret Tryz.prog 80 [.pointer (some ⟨c.rb, 0, none⟩)] w (RRes c σ (condP c.e) w (HR w)) := by
 refine ret_of [_] func80 rfl ntmps80 rfl ?_
 obtain ⟨w0, rfl⟩ : ∃ w0, w0 = w := ⟨_, rfl⟩
 have hP' := hP
 dsimp only [RAt, rcell] at hP
 have st := St.of1 [c.rb] hP
 have h20 := hC.len
 have hl := suf_len hr
 refine sr ?_
 refine ya ?_
 refine et (vk1 0 (sr ?_))
 refine ym ?_
 refine vc_e (e_call [_, _] rfl rfl call52 rfl (rwant_any c [40] σ hr _ (hC.k1 st.chg) (by exact st.res (i := 0) rfl)) ?_)
 rintro _ w ⟨rfl, hP1, cw⟩
 replace st := St.prs (b := c.rb) st 0 rfl cw (.inl (.head _)) hP1
 have hsf1 : (wantR c.e [40] σ).r <:+ σ.r := wantR_suf
 have hr1 := hsf1.trans hr
 refine et (vk1 0 (sr ?_))
 refine ym ?_
 refine vc_e (e_call [_, _, _] rfl rfl call82 rfl (rexpr_any c (wantR c.e [40] σ) hr1 _ (hC.k1 st.chg) (by exact st.res (i := 0) rfl)) ?_)
 rintro _ w ⟨x, σ2, hD, hsf, hP1, cw, ox, cx, Sx, rfl, hQ, hN⟩
 have hNSx := hN.le st.chg.size
 replace st := St.prsT (b := c.rb) st 0 rfl cw (.inl (.head _)) hP1 (holds_ex hQ) hN.2
 have hr2 := hsf.trans hr1
 refine vc_e (e_al (l := [_, _, _, _, _, _]) st rfl rfl zeroValue60 rfl ?_)
 intro b3 w hb3 st
 refine vc_e (e_sts (vs := [_, _, _, _, _, _]) st 0 rfl rfl rfl rfl rfl sizeOf60 rfl rfl (by (right; assumption)) ?_)
 intro w st
 refine et (vk2 0 3 (sr ?_))
 refine ym ?_
 refine vc_e (e_call [_, _] rfl rfl call52 rfl (rwant_any c [41] σ2 hr2 _ (hC.k1 st.chg) (by exact st.res (i := 2) rfl)) ?_)
 rintro _ w ⟨rfl, hP1, cw⟩
 replace st := St.prs (b := c.rb) st 2 rfl cw (.inl (.head _)) hP1
 refine et (vk1 3 (sr ?_))
 refine yla st 0 [_, _, _, _, _, _] isAgg60 sizeOf60 ?_
 refine vc_e (e_bs1 (l := [_, _, _, _, _, _]) st rfl rfl rfl rfl underlying54 sizeOf60 rfl rfl rfl zeroValue60 ?_)
 intro b11 w hb11 st
 refine ya ?_
 refine et (vk1 2 (vc_ret ?_))
 refine vq_ret1 st (.inl rfl) results80 (.tmp rfl) ?_
 refine ⟨_, rfl, ?_⟩
 exact ⟨x, wantR c.e [41] σ2, cond_done hD, wantR_suf.trans (hsf.trans hsf1), (by exact st.res (i := 3) rfl), st.chg, some ⟨b11, 0, none⟩, 1, b11 :: Sx, rfl, ex_one (st.res (i := 0) rfl) (by exact (st.res (i := 2) rfl).1), Nw.app (S := [b11]) ⟨by simp, by simpa using hb11⟩ hNSx (fun b hb hb' => by exact st.ne (i := 0) (j := 2) (by decide) rfl rfl b hb hb')⟩
end Go.Proofs.YtggnfanphcaamaaGreatDoor

