/- A part of the proof: contracts of functions and plain laws; each theorem says its own conditions. -/
import Derived.Test.YtnmhlpnapgojjaaGreatDoorPrettyBackK1
import Derived.Test.YtnmhlpnapgojjaaGreatDoorPrettyBackK12
import Derived.Test.YtnmhlpnapgojjaaGreatDoorPrettyBackK2
import Derived.Test.YtnmhlpnapgojjaaGreatDoorPrettyBackTryzShelfP
set_option linter.unusedVariables false
set_option linter.unusedSimpArgs false
namespace Go.Proofs.YtnmhlpnapgojjaaGreatDoor.Pq
open Go.RowKit Sx LexS ParS _root_.Go.Proofs.Tryz
/-- a program's value -/
def HP (w : World) (q : Pg) (v : Value) (w' : World) : Prop := ∃ os ol ot cs cl ct Sq, v = .agg (pgC q os ol ot cs cl ct).toArray ∧ PgS 42 67 63 69 w' q (pgC q os ol ot cs cl ct) Sq ∧ Nw w.heap.size Sq
/-- threads, so many having come -/
def contT (e n : Nat) (acc : List Th) (r : List Tok) : PR (List Th) := match threadsP e n r with
  | .error f => .error f
  | .ok (l, r') => .ok (acc ++ l, r')
theorem contT_nil (e n : Nat) (r : List Tok) : threadsP e n r = contT e n [] r := by unfold contT; cases threadsP e n r with | error f => rfl | ok p => rfl
theorem contT_end {e n : Nat} {acc : List Th} {r : List Tok} (h : isT wThread r = false) : contT e (n + 1) acc r = .ok (acc, r) := by
  simp only [contT, threadsP, if_neg (show ¬ isT wThread r = true by simp [h]), List.append_nil]
theorem contT_step {e n : Nat} {acc : List Th} {r : List Tok} (h : isT wThread r = true) : contT e (n + 1) acc r = match threadP e r.tail with
    | .error f => .error f
    | .ok (t, r') => contT e n (acc ++ [t]) r' := by
  simp only [contT, threadsP, if_pos h]
  cases threadP e r.tail with
  | error f => rfl
  | ok p =>
    simp only
    cases threadsP e n p.2 with
    | error f => rfl
    | ok q => simp
/-- a program, so much having come -/
def contPg (e n : Nat) (sh lk : List Dc) (r : List Tok) : Except Flt Pg := match progP e n r with
  | .error f => .error f
  | .ok p => .ok ⟨sh ++ p.shared, lk ++ p.locks, p.threads⟩
theorem contPg_nil (e n : Nat) (r : List Tok) : progP e n r = contPg e n [] [] r := by unfold contPg; cases progP e n r with | error f => rfl | ok p => rfl
theorem contPg_sh {e n : Nat} {sh lk : List Dc} {r : List Tok} (h : isT wShared r = true) : contPg e (n + 1) sh lk r = match listP e (initP e) (r.length + 1) r.tail with
    | .error f => .error f
    | .ok (l, r') => contPg e n (sh ++ l) lk r' := by
  simp only [contPg, progP, if_pos h]
  cases listP e (initP e) (r.length + 1) r.tail with
  | error f => rfl
  | ok p =>
    simp only
    cases progP e n p.2 with
    | error f => rfl
    | ok q => simp
theorem contPg_lk {e n : Nat} {sh lk : List Dc} {r : List Tok} (h0 : isT wShared r = false) (h : isT wLock r = true) : contPg e (n + 1) sh lk r = match listP e (declP e) (r.length + 1) r.tail with
    | .error f => .error f
    | .ok (l, r') => contPg e n sh (lk ++ l) r' := by
  simp only [contPg, progP, if_neg (show ¬ isT wShared r = true by simp [h0]), if_pos h]
  cases listP e (declP e) (r.length + 1) r.tail with
  | error f => rfl
  | ok p =>
    simp only
    cases progP e n p.2 with
    | error f => rfl
    | ok q => simp
theorem contPg_th {e n : Nat} {sh lk : List Dc} {r : List Tok} (h0 : isT wShared r = false) (h1 : isT wLock r = false) : contPg e (n + 1) sh lk r = match contT e (r.length + 1) [] r with
    | .error f => .error f
    | .ok (l, r') => if r'.length = 0 then .ok ⟨sh, lk, l⟩ else fail e 2 r' := by
  simp only [contPg, progP, if_neg (show ¬ isT wShared r = true by simp [h0]), if_neg (show ¬ isT wLock r = true by simp [h1])]
  rw [contT_nil]
  cases contT e (r.length + 1) [] r with
  | error f => rfl
  | ok p =>
    simp only
    by_cases hc : p.2.length = 0
    · simp only [if_pos hc, List.append_nil]
    · simp only [if_neg hc]; rfl
/-- what is left when a program's reader is done -/
def PResG (c : PCtx) (r : List Tok) (res : Except Flt Pg) (M : List Nat) (w : World) (v : Value) (w' : World) : Prop := ∃ q, res = .ok q ∧ Chg M w w' ∧ HP w q v w'

set_option maxHeartbeats 2000000 in
theorem pprog_any (c : PCtx) (hR : c.R = 75) (hg : c.g = 0) (r : List Tok) (hr : r <:+ c.ts) (w : World) (hC : PCok c w) (hP : PAt c r w) (n : Nat) (hn : r.length < n) : RetP Tryz.prog 37 [.pointer (some ⟨c.pb, 0, none⟩)] w
    (PResG c r (progP c.e n r) [c.pb] w) (PErr c (progP c.e n r) [c.pb] w) := by
  refine retp_of [_] func37 rfl ntmps37 rfl ?_
  
  obtain ⟨w0, rfl⟩ : ∃ w0, w0 = w := ⟨_, rfl⟩
  have hP' := hP
  dsimp only [PAt, pcell] at hP
  have st := St.of1 [c.pb] hP
  have h20 := hC.len
  have hl := suf_len hr
  have hs := contPg_nil c.e n r
  replace st := (st.ownNil 63 3).ownNil 63 3
  refine vc_seq (vc_region ?_)
  refine vc_e (e_al (l := [_, _, _]) st rfl rfl zeroValue26 rfl ?_)
  intro b2 w hb2 st
  refine vc_end (vq_then (vk2 0 2 (vc_seq (vc_region ?_))))
  refine vc_e (e_al (l := [_, _, _]) st rfl rfl zeroValue26 rfl ?_)
  intro b3 w hb3 st
  refine vc_end (vq_then (vk3 0 2 3 (vc_block ?_)))
  refine vc_loop (w0 := w0) (M := [c.pb]) (fun (y : List Dc × List Dc × List Tok × Nat × Option Addr × Nat × Option Addr × Nat) => [(0, .pointer (some ⟨c.pb, 0, none⟩)), (2, .pointer (some ⟨b2, 0, none⟩)), (3, .pointer (some ⟨b3, 0, none⟩))]) (fun y => [.blk b3 (.cells [.slice y.2.2.2.2.1 y.1.length y.2.2.2.2.2.1, .slice y.2.2.2.2.2.2.1 y.2.1.length y.2.2.2.2.2.2.2, .slice none 0 0].toArray 26 (0, 0)), .own (.slice y.2.2.2.2.1 y.1.length y.2.2.2.2.2.1) 63 3 y.1.length (y.1.flatMap dcL), .own (.slice y.2.2.2.2.2.2.1 y.2.1.length y.2.2.2.2.2.2.2) 63 3 y.2.1.length (y.2.1.flatMap dcL), .blk b2 (.cells [.slice none 0 0, .slice none 0 0, .slice none 0 0].toArray 26 (0, 0)), .blk c.pb (.cells (pcell c y.2.2.1).toArray c.T (0, 0))]) (fun y _ => y.2.2.1 <:+ r ∧ y.2.2.1.length + y.1.length + y.2.1.length ≤ r.length ∧ y.2.2.1.length < y.2.2.2.1 ∧ progP c.e n r = contPg c.e y.2.2.2.1 y.1 y.2.1 y.2.2.1) (fun y => y.2.2.1.length) ([], [], r, n, none, 0, none, 0) ⟨rfl, rfl, rfl, trivial⟩ (st.pick [0, 2, 3, 1, 4] rfl (by decide)) ⟨List.suffix_refl _, by simp, hn, hs⟩ ?_
  clear st hs
  rintro ⟨sh, lk, r1, k, os, cs, ol, cl⟩ w ⟨hsf1, hl1, hk1, hs⟩ st
  dsimp only at hsf1 hl1 hk1 hs st
  have hr1 := hsf1.trans hr
  obtain ⟨k, rfl⟩ : ∃ j, k = j + 1 := ⟨k - 1, by omega⟩
  have h40 := hr.length_le
  refine vc_block (vc_block (vc_seq (vc_region ?_)))
  refine ym ?_
  refine vc_e (e_call [_, _] rfl rfl call86 rfl (ptake_any c wShared r1 hr1 _ (hC.k1 st.chg) (by exact st.res (i := 4) rfl)) ?_)
  rintro _ w ⟨rfl, hP1, cw⟩
  replace st := St.prs (b := c.pb) st 4 rfl cw (.inl (.head _)) hP1
  dsimp only [setNth] at st
  refine ya ?_
  refine vc_end (vq_then (vk4 0 2 3 5 ?_))
  refine vc_ifs rfl ?_ ?_
  · intro hc5
    try simp only [dn] at hc5
    simp only [hc5, if_true] at st
    have ht := tail_lt (isT_ne hc5)
    have hr1t := suf_tail hr1
    rw [contPg_sh hc5] at hs
    refine vk_draw Tryz.mixed [(0, true), (2, true), (3, true), (4, true), (1, true), (5, false), (6, false), (7, true), (8, false)] 8 (fun w => St _ _ [.blk b3 (.cells [.slice os sh.length cs, .slice ol lk.length cl, .slice none 0 0].toArray 26 (0, 0))] w) st.dr (by kernel_rfl) (by repeat (first | exact okQ_noPan | exact okQ_body | exact okQ_bodyS | refine okQ_then ?_ | refine okQ_block ?_)) rfl (by kernel_rfl) rfl ?_
    intro w cd; replace st := st.call0 cd; clear cd
    have hS : St _ _ [.blk b3 (.cells [.slice os sh.length cs, .slice ol lk.length cl, .slice none 0 0].toArray 26 (0, 0))] w := st.dr
    refine vk_takeU rfl rfl rfl rfl (fun _ => hS) (fun w => y_fa0 rfl underlying26 rfl rfl sizeOf23 rfl) ?_
    iterate 2 refine vk_takeU rfl rfl rfl rfl (fun _ => hS) (fun w => y_mv rfl) ?_
    refine vk_takeU rfl rfl rfl rfl (fun _ => hS) (fun w => y_mf [_] [] rfl rfl) ?_
    refine vk_take rfl rfl rfl rfl hS (fun w st => y_ld st 0 rfl isAgg23 rfl rfl) ?_
    refine vk_do rfl rfl (e_callp [_, _] rfl rfl call87 rfl (plist_any c hR 88 (initP c.e) call88 (hinit c hR) (r1.length + 1) r1.tail (by rw [List.length_tail]; omega) hr1t _ (hC.k1 st.chg) (by exact st.res (i := 4) rfl)) (by rintro _ w' ⟨f, hf, rfl, ch⟩ a ha; exact And.intro ha (Or.inr ⟨_, rfl, f, by rw [hs, hf], rfl, st.chg.trans ch⟩)) ?_)
    rintro _ w ⟨l, r2, hx, hsfr2, hlnr2, hP1, cw, oD, cD, SD, rfl, hQ, hN⟩
    have hNSD := hN.le st.chg.size
    replace st := St.prsT (b := c.pb) st 4 rfl cw (.inl (.head _)) hP1 (holds_dc hQ) hN.2
    dsimp only [setNth] at st
    rw [hx] at hs; dsimp only at hs
    have hr2 := hsfr2.trans hr1t
    have hll := listP_len c.e _ initP_len _ _ _ _ (by assumption)
    refine vk_next st.dr ?_; intro hS
    refine vk_do rfl rfl (e_appr (bytes := 32) (len' := (sh ++ l).length) (ys := (sh ++ l).flatMap dcL) st 2 rfl rfl rfl rfl rfl (dcr_rd (st.res (i := 0) rfl).1) underlying23 Tryz.info63 rfl rfl rfl rfl rfl (dcs_len l) (dcs_one l) (by unfold maxLen; omega) (by omega) (by simp) (by simp) ?_)
    intro oaQ capQ w st; dsimp only [setNth] at st
    refine vk_next st.dr ?_; intro hS
    refine vk_takeU rfl rfl rfl rfl (fun _ => hS) (fun w => y_fa0 rfl underlying26 rfl rfl sizeOf23 rfl) ?_
    refine vk_do rfl rfl (e_st st 1 rfl rfl rfl rfl sizeOf23 rfl rfl (by (right; assumption)) ?_)
    intro w st; dsimp only [setNth, wr] at st
    refine vk_late ?_
    refine vk_end ?_
    refine vq_block (vq_block ?_)
    refine vq_again (sh ++ l, lk, r2, k, oaQ, capQ, ol, cl)  ⟨rfl, rfl, rfl, trivial⟩ (st.pick [1, 2, 3, 4, 5] rfl (by decide)) ?_ ?_
    · exact ⟨(hsfr2.trans (List.tail_suffix _)).trans hsf1, by simp; omega, by dsimp only; omega, hs⟩
    · dsimp only; omega
  · intro hc5
    try simp only [dn] at hc5
    simp only [hc5, Bool.false_eq_true, if_false] at st
    refine vc_seq (vc_region ?_)
    refine ym ?_
    refine vc_e (e_call [_, _] rfl rfl call86 rfl (ptake_any c wLock r1 hr1 _ (hC.k1 st.chg) (by exact st.res (i := 4) rfl)) ?_)
    rintro _ w ⟨rfl, hP1, cw⟩
    replace st := St.prs (b := c.pb) st 4 rfl cw (.inl (.head _)) hP1
    dsimp only [setNth] at st
    refine ya ?_
    refine vc_end (vq_then (vk4 0 2 3 16 ?_))
    refine vc_ifs rfl ?_ ?_
    · intro hc16
      try simp only [dn] at hc16
      simp only [hc16, if_true] at st
      have ht := tail_lt (isT_ne hc16)
      have hr1t := suf_tail hr1
      rw [contPg_lk hc5 hc16] at hs
      refine vk_draw Tryz.mixed [(0, true), (2, true), (3, true), (4, true), (1, true), (5, false), (6, false), (7, true), (8, false)] 8 (fun w => St _ _ [.blk b3 (.cells [.slice os sh.length cs, .slice ol lk.length cl, .slice none 0 0].toArray 26 (0, 0))] w) st.dr (by kernel_rfl) (by repeat (first | exact okQ_noPan | exact okQ_body | exact okQ_bodyS | refine okQ_then ?_ | refine okQ_block ?_)) rfl (by kernel_rfl) rfl ?_
      intro w cd; replace st := st.call0 cd; clear cd
      have hS : St _ _ [.blk b3 (.cells [.slice os sh.length cs, .slice ol lk.length cl, .slice none 0 0].toArray 26 (0, 0))] w := st.dr
      refine vk_takeU rfl rfl rfl rfl (fun _ => hS) (fun w => (by exact y_faz (k := 1) rfl underlying26 rfl rfl sizeOf23 rfl)) ?_
      iterate 2 refine vk_takeU rfl rfl rfl rfl (fun _ => hS) (fun w => y_mv rfl) ?_
      refine vk_takeU rfl rfl rfl rfl (fun _ => hS) (fun w => y_mf [_] [] rfl rfl) ?_
      refine vk_take rfl rfl rfl rfl hS (fun w st => y_ld st 0 rfl isAgg23 rfl rfl) ?_
      refine vk_do rfl rfl (e_callp [_, _] rfl rfl call87 rfl (plist_any c hR 89 (declP c.e) call89 (hdecl c hR) (r1.length + 1) r1.tail (by rw [List.length_tail]; omega) hr1t _ (hC.k1 st.chg) (by exact st.res (i := 4) rfl)) (by rintro _ w' ⟨f, hf, rfl, ch⟩ a ha; exact And.intro ha (Or.inr ⟨_, rfl, f, by rw [hs, hf], rfl, st.chg.trans ch⟩)) ?_)
      rintro _ w ⟨l, r2, hx, hsfr2, hlnr2, hP1, cw, oD, cD, SD, rfl, hQ, hN⟩
      have hNSD := hN.le st.chg.size
      replace st := St.prsT (b := c.pb) st 4 rfl cw (.inl (.head _)) hP1 (holds_dc hQ) hN.2
      dsimp only [setNth] at st
      rw [hx] at hs; dsimp only at hs
      have hr2 := hsfr2.trans hr1t
      have hll := listP_len c.e _ declP_len _ _ _ _ (by assumption)
      refine vk_next st.dr ?_; intro hS
      refine vk_do rfl rfl (e_appr (bytes := 32) (len' := (lk ++ l).length) (ys := (lk ++ l).flatMap dcL) st 3 rfl rfl rfl rfl rfl (dcr_rd (st.res (i := 0) rfl).1) underlying23 Tryz.info63 rfl rfl rfl rfl rfl (dcs_len l) (dcs_one l) (by unfold maxLen; omega) (by omega) (by simp) (by simp) ?_)
      intro oaQ capQ w st; dsimp only [setNth] at st
      refine vk_next st.dr ?_; intro hS
      refine vk_takeU rfl rfl rfl rfl (fun _ => hS) (fun w => (by exact y_faz (k := 1) rfl underlying26 rfl rfl sizeOf23 rfl)) ?_
      refine vk_do rfl rfl (e_st st 1 rfl rfl rfl rfl sizeOf23 rfl rfl (by (right; assumption)) ?_)
      intro w st; dsimp only [setNth, wr] at st
      refine vk_late ?_
      refine vk_end ?_
      refine vq_block (vq_block ?_)
      refine vq_again (sh, lk ++ l, r2, k, os, cs, oaQ, capQ)  ⟨rfl, rfl, rfl, trivial⟩ (st.pick [1, 2, 3, 4, 5] rfl (by decide)) ?_ ?_
      · exact ⟨(hsfr2.trans (List.tail_suffix _)).trans hsf1, by simp; omega, by dsimp only; omega, hs⟩
      · dsimp only; omega
    · intro hc16
      try simp only [dn] at hc16
      simp only [hc16, Bool.false_eq_true, if_false] at st
      rw [contPg_th hc5 hc16] at hs
      refine vc_seq (vc_region ?_)
      refine ym ?_
      refine vc_e (e_call [_, _] rfl rfl call90 rfl (pis_any c wThread r1 hr1 _ (hC.k1 st.chg) (by exact st.res (i := 4) rfl)) ?_)
      rintro _ w ⟨rfl, cw⟩
      replace st := st.call0 cw
      refine ya ?_
      refine vc_end (vq_then (vk4 0 2 3 27 ?_))
      refine vc_ifs rfl ?_ ?_
      · intro hc27
        try simp only [dn] at hc27
        replace st := St.pushR (r := .tree [] (fun w => ThSs 42 67 63 w [] [] [])) st (Chg.refl _ _) (holds_thss (by simp [ThSs])) (by simp [Res.at?])
        replace st := st.ownNil 69 4
        refine vc_seq (vc_block ?_)
        refine vc_loop (w0 := w0) (M := [c.pb]) (fun (z : List Th × List Tok × Nat × Option Addr × Nat × List Value × List Nat) => [(0, .pointer (some ⟨c.pb, 0, none⟩)), (2, .pointer (some ⟨b2, 0, none⟩)), (3, .pointer (some ⟨b3, 0, none⟩))]) (fun z => [.blk b3 (.cells [.slice os sh.length cs, .slice ol lk.length cl, .slice z.2.2.2.1 z.1.length z.2.2.2.2.1].toArray 26 (0, 0)), .own (.slice os sh.length cs) 63 3 sh.length (sh.flatMap dcL), .own (.slice ol lk.length cl) 63 3 lk.length (lk.flatMap dcL), .own (.slice z.2.2.2.1 z.1.length z.2.2.2.2.1) 69 4 z.1.length z.2.2.2.2.2.1, .tree z.2.2.2.2.2.2 (fun w => ThSs 42 67 63 w z.1 z.2.2.2.2.2.1 z.2.2.2.2.2.2), .blk b2 (.cells [.slice none 0 0, .slice none 0 0, .slice none 0 0].toArray 26 (0, 0)), .blk c.pb (.cells (pcell c z.2.1).toArray c.T (0, 0))]) (fun z _ => z.2.1 <:+ r1 ∧ z.2.1.length + z.1.length ≤ r1.length ∧ z.2.1.length < z.2.2.1 ∧ Nw w0.heap.size z.2.2.2.2.2.2 ∧ contT c.e (r1.length + 1) [] r1 = contT c.e z.2.2.1 z.1 z.2.1) (fun z => z.2.1.length) ([], r1, r1.length + 1, none, 0, [], []) ⟨rfl, rfl, rfl, trivial⟩ (st.pick [2, 3, 4, 0, 1, 5, 6] rfl (by decide)) ⟨List.suffix_refl _, by simp, by simp, Nw.nil, rfl⟩ ?_
        clear st
        rintro ⟨acc, r2, j, ot, ct, xs, Sq⟩ w ⟨hsf2, hl2, hj2, hSq, hlo⟩ st
        dsimp only at hsf2 hl2 hj2 hSq hlo st
        have hr2 := hsf2.trans hr1
        obtain ⟨j, rfl⟩ : ∃ i, j = i + 1 := ⟨j - 1, by omega⟩
        refine vc_seq (vc_seq (vc_region ?_))
        refine ym ?_
        refine vc_e (e_call [_, _] rfl rfl call86 rfl (ptake_any c wThread r2 hr2 _ (hC.k1 st.chg) (by exact st.res (i := 6) rfl)) ?_)
        rintro _ w ⟨rfl, hP1, cw⟩
        replace st := St.prs (b := c.pb) st 6 rfl cw (.inl (.head _)) hP1
        dsimp only [setNth] at st
        refine vc_end (vq_then (vk4 0 2 3 31 ?_))
        refine vc_ifs rfl ?_ ?_
        · intro hc31
          try simp only [dn] at hc31
          simp only [hc31, if_true] at st
          have ht := tail_lt (isT_ne hc31)
          have hr2t := suf_tail hr2
          rw [hlo, contT_step hc31] at hs
          refine vc_code_skip (vq_then (vk3 0 2 3 (vc_block ?_)))
          refine vk_draw Tryz.mixed [(0, true), (2, true), (1, true), (3, false), (4, false), (5, false), (6, true), (7, false)] 7 (fun w => St _ _ [.blk b3 (.cells [.slice os sh.length cs, .slice ol lk.length cl, .slice ot acc.length ct].toArray 26 (0, 0))] w) st.dr (by kernel_rfl) (by repeat (first | exact okQ_noPan | exact okQ_body | exact okQ_bodyS | refine okQ_then ?_ | refine okQ_block ?_)) rfl (by kernel_rfl) rfl ?_
          intro w cd; replace st := st.call0 cd; clear cd
          have hS : St _ _ [.blk b3 (.cells [.slice os sh.length cs, .slice ol lk.length cl, .slice ot acc.length ct].toArray 26 (0, 0))] w := st.dr
          refine vk_takeU rfl rfl rfl rfl (fun _ => hS) (fun w => (by exact y_faz (k := 2) rfl underlying26 rfl rfl sizeOf24 rfl)) ?_
          refine vk_takeU rfl rfl rfl rfl (fun _ => hS) (fun w => y_mv rfl) ?_
          refine vk_take rfl rfl rfl rfl hS (fun w st => y_ld st 0 rfl isAgg24 rfl rfl) ?_
          refine vk_do rfl rfl (e_callp [_] rfl rfl call91 rfl (pthread_any c hR hg r2.tail hr2t _ (hC.k1 st.chg) (by exact st.res (i := 6) rfl)) (by rintro _ w' ⟨f, hf, rfl, ch⟩ a ha; exact And.intro ha (Or.inr ⟨_, rfl, f, by rw [hs, hf], rfl, st.chg.trans ch⟩)) ?_)
          rintro _ w ⟨t, r3, hx, hsfr3, hlnr3, hP1, cw, tl, tb, cll, cbb, St_, rfl, hQ, hN⟩
          have hNSt := hN.le st.chg.size
          replace st := St.prsT (b := c.pb) st 6 rfl cw (.inl (.head _)) hP1 (holds_ths hQ) hN.2
          dsimp only [setNth] at st
          have hx3 := hx
          refine vk_next st.dr ?_; intro hS
          refine vk_do rfl rfl (e_bs1 (l := [_, _, _, _]) st rfl rfl rfl rfl underlying24 sizeOf69 rfl rfl rfl zeroValue69 ?_)
          intro b36 w hb36 st
          refine vk_next st.dr ?_; intro hS
          refine vk_do rfl rfl (e_app (bytes := 72) st 5 0 rfl rfl rfl rfl rfl rfl underlying24 Tryz.info69 rfl rfl rfl rfl rfl (by simp) rfl rfl (by unfold maxLen; omega) (by omega) ?_)
          intro oaQ capQ w st; dsimp only [setNth] at st
          have hT2 := ThSs.snoc (st.res (i := 6) rfl).1 (st.res (i := 1) rfl).1
          have hN2 := hSq.app hNSt (st.ne (i := 6) (j := 1) (by decide) rfl rfl)
          replace st := ((st.pick [6, 1, 2, 3, 4, 5, 7, 8] rfl (by decide)).join (q := .tree (Sq ++ St_) fun w => ThSs 42 67 63 w (acc ++ [t]) (xs ++ thC t tl tb cll cbb) (Sq ++ St_)) (fun k hk => List.mem_append.1 hk) (holds_thss hT2)).pick [1, 2, 3, 4, 0, 5, 6] rfl (by decide)
          refine vk_next st.dr ?_; intro hS
          refine vk_takeU rfl rfl rfl rfl (fun _ => hS) (fun w => (by exact y_faz (k := 2) rfl underlying26 rfl rfl sizeOf24 rfl)) ?_
          refine vk_do rfl rfl (e_st st 0 rfl rfl rfl rfl sizeOf24 rfl rfl (by (right; assumption)) ?_)
          intro w st; dsimp only [setNth, wr] at st
          refine vk_late ?_
          refine vk_end ?_
          refine vq_block ?_
          refine vq_again (acc ++ [t], r3, j, oaQ, capQ, xs ++ thC t tl tb cll cbb, Sq ++ St_)  ⟨rfl, rfl, rfl, trivial⟩ (by simpa using st) ?_ ?_
          · exact ⟨(hsfr3.trans (List.tail_suffix _)).trans hsf2, by simp; omega, by dsimp only; omega, hN2, by rw [hlo, contT_step hc31, hx3]⟩
          · dsimp only; omega
        · intro hc31
          try simp only [dn] at hc31
          simp only [hc31, Bool.false_eq_true, if_false] at st
          rw [hlo, contT_end hc31] at hs; dsimp only at hs
          refine vc_exit (vq_then_exit (vq_then_exit (vq_block_exit (vq_then (vk3 0 2 3 (vc_seq (vc_seq ?_)))))))
          refine vc_draw Tryz.mixed [(0, true), (1, true), (2, true), (3, true), (4, true), (5, true), (6, true), (7, true), (8, true), (9, true)] (fun w => St _ _ _ w) st (by kernel_rfl) (by repeat (first | exact okQ_noPan | exact okQ_body | exact okQ_bodyS | refine okQ_then ?_ | refine okQ_block ?_)) rfl (by kernel_rfl) ?_
          intro w cd; replace st := st.call0 cd; clear cd
          have hS := st
          refine pm hS ?_
          refine pnk hS ?_
          refine pfz hS 1 underlying91 sizeOf3 ?_
          refine pld hS 6 isAgg3 ?_
          refine pm hS ?_
          refine pnk hS ?_
          refine pf0 hS underlying91 sizeOf89 ?_
          refine pld hS 6 isAgg89 ?_
          refine vp_take rfl rfl rfl hS (fun w st => y_lensl rfl underlying89) ?_
          refine vp_take rfl rfl rfl hS (fun w st => y_lss rfl rfl) ?_
          refine vp_end (vq_then (vk4 0 2 3 48 ?_))
          refine vc_ifs rfl ?_ ?_
          · intro hc48
            try simp only [dn] at hc48
            have h0 : ¬ r2.length = 0 := by omega
            rw [if_neg h0] at hs
            refine vc_region ?_
            refine ym ?_
            refine vc_e (e_callp [_, _] rfl rfl call50 rfl (pfail_any c 2 r2 hr2 _ (hC.k1 st.chg) (by exact st.res (i := 6) rfl) hR) (by rintro _ w' ⟨rfl, ch⟩ a ha; exact And.intro ha (Or.inr ⟨_, rfl, (atT c.e r2, 2), by rw [hs]; rfl, rfl, st.chg.trans ch.of_nil⟩)) (fun _ _ h => h.elim))
          · intro hc48
            try simp only [dn] at hc48
            have h41 := hr2.length_le
            have h0 : r2.length = 0 := by omega
            rw [if_pos h0] at hs
            refine vc_code_skip (vq_then (vk2 2 3 (vc_seq (vc_region ?_))))
            refine yla st 0 [_, _, _] isAgg26 sizeOf26 ?_
            refine vc_e (e_sts (vs := [_, _, _]) st 5 rfl rfl rfl rfl rfl sizeOf26 rfl rfl (by (right; assumption)) ?_)
            intro w st; dsimp only [setNth, wr] at st
            refine vc_end (vq_then (vk1 2 (vc_ret (vq_block_ret (vq_block_ret (vq_then_ret (vq_block_ret ?_)))))))
            refine vq_ret1 st (.inl rfl) results37 (by exact .cell 5 rfl rfl isAgg26 sizeOf26) ?_
            refine .inl ⟨_, rfl, ?_⟩
            have o1 := st.ownNw (i := 1) rfl
            have o2 := st.ownNw (i := 2) rfl
            have o3 := st.ownNw (i := 3) rfl
            have d12 : ∀ k ∈ obk os, k ∉ obk ol := fun k hk hk' => st.ne (i := 1) (j := 2) (by decide) rfl rfl k (by simpa [Res.at?, obk_own] using hk) (by simpa [Res.at?, obk_own] using hk')
            have d13 : ∀ k ∈ obk os, k ∉ obk ot := fun k hk hk' => st.ne (i := 1) (j := 3) (by decide) rfl rfl k (by simpa [Res.at?, obk_own] using hk) (by simpa [Res.at?, obk_own] using hk')
            have d23 : ∀ k ∈ obk ol, k ∉ obk ot := fun k hk hk' => st.ne (i := 2) (j := 3) (by decide) rfl rfl k (by simpa [Res.at?, obk_own] using hk) (by simpa [Res.at?, obk_own] using hk')
            have d14 : ∀ k ∈ obk os, k ∉ Sq := fun k hk => st.ne (i := 1) (j := 4) (by decide) rfl rfl k (by simpa [Res.at?, obk_own] using hk)
            have d24 : ∀ k ∈ obk ol, k ∉ Sq := fun k hk => st.ne (i := 2) (j := 4) (by decide) rfl rfl k (by simpa [Res.at?, obk_own] using hk)
            have d34 : ∀ k ∈ obk ot, k ∉ Sq := fun k hk => st.ne (i := 3) (j := 4) (by decide) rfl rfl k (by simpa [Res.at?, obk_own] using hk)
            exact ⟨⟨sh, lk, acc⟩, hs, st.chg, os, ol, ot, cs, cl, ct, obk os ++ (obk ol ++ (obk ot ++ Sq)), rfl, ⟨os, cs, ol, cl, ot, ct, obk os, obk ol, obk ot ++ Sq, rfl, ⟨o1.1, rfl⟩, ⟨o2.1, rfl⟩, ⟨xs, Sq, o3.1, rfl, (st.res (i := 4) rfl).1⟩, rfl⟩,
              o1.2.app (o2.2.app (o3.2.app hSq d34) (fun b hb hb' => (List.mem_append.1 hb').elim (d23 b hb) (d24 b hb))) (fun b hb hb' => (List.mem_append.1 hb').elim (d12 b hb) fun h => (List.mem_append.1 h).elim (d13 b hb) (d14 b hb))⟩
      · intro hc27
        try simp only [dn] at hc27
        rw [contT_end hc27] at hs; dsimp only at hs
        refine vc_seq ?_
        refine vc_draw Tryz.mixed [(0, true), (1, true), (2, true), (3, true), (4, true), (5, true), (6, true), (7, true), (8, true), (9, true), (10, true)] (fun w => St _ _ _ w) st (by kernel_rfl) (by repeat (first | exact okQ_noPan | exact okQ_body | exact okQ_bodyS | refine okQ_then ?_ | refine okQ_block ?_)) rfl (by kernel_rfl) ?_
        intro w cd; replace st := st.call0 cd; clear cd
        have hS := st
        refine pm hS ?_
        refine pnk hS ?_
        refine pfz hS 1 underlying91 sizeOf3 ?_
        refine pld hS 4 isAgg3 ?_
        refine pm hS ?_
        refine pnk hS ?_
        refine pf0 hS underlying91 sizeOf89 ?_
        refine pld hS 4 isAgg89 ?_
        refine vp_take rfl rfl rfl hS (fun w st => y_lensl rfl underlying89) ?_
        refine vp_take rfl rfl rfl hS (fun w st => y_lss rfl rfl) ?_
        refine vp_take rfl rfl rfl hS (fun w st => y_as rfl) ?_
        refine vp_end (vq_then (vk4 0 2 3 52 ?_))
        refine vc_ifs rfl ?_ ?_
        · intro hc52
          try simp only [dn] at hc52
          have h0 : ¬ r1.length = 0 := by omega
          rw [if_neg h0] at hs
          refine vc_region ?_
          refine ym ?_
          refine vc_e (e_callp [_, _] rfl rfl call50 rfl (pfail_any c 2 r1 hr1 _ (hC.k1 st.chg) (by exact st.res (i := 4) rfl) hR) (by rintro _ w' ⟨rfl, ch⟩ a ha; exact And.intro ha (Or.inr ⟨_, rfl, (atT c.e r1, 2), by rw [hs]; rfl, rfl, st.chg.trans ch.of_nil⟩)) (fun _ _ h => h.elim))
        · intro hc52
          try simp only [dn] at hc52
          have h41 := hr1.length_le
          have h0 : r1.length = 0 := by omega
          rw [if_pos h0] at hs
          refine vc_seq (vc_region ?_)
          refine yla st 0 [_, _, _] isAgg26 sizeOf26 ?_
          refine vc_e (e_sts (vs := [_, _, _]) st 3 rfl rfl rfl rfl rfl sizeOf26 rfl rfl (by (right; assumption)) ?_)
          intro w st; dsimp only [setNth, wr] at st
          refine vc_end (vq_then (vk1 2 (vc_ret (vq_block_ret (vq_block_ret (vq_then_ret (vq_block_ret ?_)))))))
          refine vq_ret1 st (.inl rfl) results37 (by exact .cell 3 rfl rfl isAgg26 sizeOf26) ?_
          refine .inl ⟨_, rfl, ?_⟩
          have o1 := st.ownNw (i := 1) rfl
          have o2 := st.ownNw (i := 2) rfl
          have d12 : ∀ k ∈ obk os, k ∉ obk ol := fun k hk hk' => st.ne (i := 1) (j := 2) (by decide) rfl rfl k (by simpa [Res.at?, obk_own] using hk) (by simpa [Res.at?, obk_own] using hk')
          exact ⟨⟨sh, lk, []⟩, hs, st.chg, os, ol, none, cs, cl, 0, obk os ++ (obk ol ++ []), rfl, ⟨os, cs, ol, cl, none, 0, obk os, obk ol, [], rfl, ⟨o1.1, rfl⟩, ⟨o2.1, rfl⟩, ⟨[], [], World.ownsRow_nil _ _ _ _, rfl, rfl, rfl⟩, rfl⟩,
            by rw [List.append_nil]; exact o1.2.app o2.2 d12⟩

end Go.Proofs.YtnmhlpnapgojjaaGreatDoor.Pq


namespace Go.Proofs.YtnmhlpnapgojjaaGreatDoor.Pq
open Go.RowKit Sx LexS _root_.Go.Proofs.Tryz
/-- the scanner's block -/
abbrev scn (s : List UInt8) (i : Int) (fa fr : Int) : Obj := .cells [str s, .int .i64 i, .int .i64 fa, .int .i64 fr].toArray 178 (0, 0)
theorem idxByte_any (l : List UInt8) (w : World) : Ret Tryz.prog 227 [str l, .int .u8 10] w fun v w' => v = .int .i64 (Lib.indexByte l 10) ∧ w' = w :=
 (Tryz.strings_IndexByte ⟨l.toArray⟩ 10 w).mono fun e w' ⟨he, hw⟩ => ⟨_, he, rfl, hw⟩
theorem hasPrefix_eq (l : List UInt8) : Lib.hasPrefix l [47, 47] = isRem l := by
 match l with
 | [] => rfl
 | [a] => simp [Lib.hasPrefix, isRem, List.isPrefixOf]
 | a :: b :: r =>
  have h : Lib.hasPrefix (a :: b :: r) [47, 47] = ((47 == a) && (47 == b)) := by simp [Lib.hasPrefix, List.isPrefixOf]
  rw [h, isRem]
  apply Bool.eq_iff_iff.2
  simp only [Bool.and_eq_true, beq_iff_eq, decide_eq_true_eq]
  exact ⟨fun ⟨h1, h2⟩ => ⟨h1.symm, h2.symm⟩, fun ⟨h1, h2⟩ => ⟨h1.symm, h2.symm⟩⟩
theorem hasRem_any (l : List UInt8) (w : World) : Ret Tryz.prog 154 [str l, str [47, 47]] w fun v w' => v = .bool (isRem l) ∧ w' = w :=
 (Tryz.strings_HasPrefix ⟨l.toArray⟩ ⟨[47, 47].toArray⟩ w).mono fun e w' ⟨he, hw⟩ => ⟨_, he, by rw [← hasPrefix_eq], hw⟩
theorem drop_cons {s : List UInt8} {j : Nat} (h : j < s.length) : s.drop j = s.getD j 0 :: s.drop (j + 1) := by
 rw [List.drop_eq_getElem_cons h]; simp [List.getD, h]

theorem over_any (b : Nat) (s : List UInt8) (i : Nat) (fa fr : Int) (w : World) (hb : w.heap[b]? = some (scn s i fa fr)) (hi : i ≤ s.length) (hs : s.length ≤ 3000000) :
    Ret Tryz.prog 197 [.pointer (some ⟨b, 0, none⟩)] w fun v w' => v = .tuple #[] ∧ Chg [b] w w' ∧ w'.heap[b]? = some (scn s ((i + skip (s.drop i) : Nat) : Int) fa fr) := by
 refine ret_of [_] func197 rfl ntmps197 rfl ?_
 have st := St.init w [b]
 replace st := St.of1 [b] hb
 refine vc_block ?_
 refine vc_loop (w0 := _) (M := _) (fun _ => [(0, .pointer (some ⟨b, 0, none⟩))]) (fun (j : Nat) => [.blk b (scn s j fa fr)]) (fun j _ => j ≤ s.length ∧ j + skip (s.drop j) = i + skip (s.drop i)) (fun j => s.length - j) i ⟨rfl, trivial⟩ st ⟨hi, rfl⟩ ?_
 rintro j w ⟨hj, he⟩ st
 refine vc_seq (vc_seq ?_)
 refine vc_draw Tryz.mixed [(0, true), (1, true), (2, true), (3, true), (4, true), (5, true), (6, true), (7, true), (8, true), (9, true)] (fun w => St _ _ _ w) st (by kernel_rfl) (by repeat (first | exact okQ_body | refine okQ_then ?_ | refine okQ_block ?_)) rfl (by kernel_rfl) ?_
 intro w cd; replace st := st.call0 cd; clear cd
 have hS := st
 refine pm hS ?_
 refine pnk hS ?_
 refine pfz hS 1 underlying178 sizeOf3 ?_
 refine pld hS 0 isAgg3 ?_
 refine pm hS ?_
 refine pnk hS ?_
 refine pf0 hS underlying178 sizeOf9 ?_
 refine pld hS 0 isAgg9 ?_
 refine vp_take rfl rfl rfl hS (fun w st => y_lens rfl underlying9) ?_
 refine vp_take rfl rfl rfl hS (fun w st => y_lss rfl rfl) ?_
 refine vp_end (vq_then (vk2 0 12 ?_))
 refine vc_ifs rfl ?_ ?_
 ·intro hc12
  try simp only [dn] at hc12
  have hd := drop_cons (s := s) (j := j) (by omega)
  refine vc_code_skip (vq_then (vk1 0 (vc_block (vc_block (vc_seq ?_)))))
  refine vc_draw Tryz.mixed [(0, true), (1, true), (2, true), (3, true), (4, true), (5, true), (6, true), (7, true), (8, true), (9, false), (10, true)] (fun w => St _ _ _ w) st (by kernel_rfl) (by repeat (first | exact okQ_body | refine okQ_then ?_ | refine okQ_block ?_)) rfl (by kernel_rfl) ?_
  intro w cd; replace st := st.call0 cd; clear cd
  have hS := st
  refine pm hS ?_
  refine pnk hS ?_
  refine pf0 hS underlying178 sizeOf9 ?_
  refine pld hS 0 isAgg9 ?_
  refine pm hS ?_
  refine pnk hS ?_
  refine pfz hS 1 underlying178 sizeOf3 ?_
  refine pld hS 0 isAgg3 ?_
  refine vp_take rfl rfl rfl hS (fun w st => y_ixs (k := _) rfl rfl underlying9 rfl (by omega)) ?_
  refine vp_do rfl (e_call [_] rfl rfl call226 rfl (blank_any _ _) ?_)
  rintro _ _ ⟨rfl, rfl⟩
  refine vp_next (by exact st) ?_; intro hS
  refine vp_take rfl rfl rfl hS (fun w st => y_as rfl) ?_
  refine vp_end (vq_then (vk2 0 13 ?_))
  refine vc_ifs rfl ?_ ?_
  ·intro hc13
   try simp only [dn] at hc13
   refine vc_region ?_
   refine ym ?_
   refine ynk ?_
   refine yfz 1 underlying178 sizeOf3 ?_
   refine yl st 0 isAgg3 ?_
   refine vy (y_add rfl rfl rfl (by omega) (by omega)) ?_
   refine ynk ?_
   refine yfz 1 underlying178 sizeOf3 ?_
   first
   | refine vc_e (e_st st 0 rfl rfl rfl rfl sizeOf3 rfl rfl (by (left; simp)) ?_)
   intro w st; dsimp only [setNth, wr] at st
   refine vc_end (vq_block (vq_block ?_))
   refine vq_again (j + 1)  ⟨rfl, trivial⟩ st ?_ ?_
   ·exact ⟨by omega, by rw [hd, skip_blank hc13] at he; omega⟩
   ·omega
  ·intro hc13
   try simp only [dn] at hc13
   refine vc_seq ?_
   refine vc_draw Tryz.mixed [(0, true), (1, true), (2, true), (3, true), (4, true), (5, true), (6, true), (7, true), (8, true), (9, false), (10, true)] (fun w => St _ _ _ w) st (by kernel_rfl) (by repeat (first | exact okQ_body | refine okQ_then ?_ | refine okQ_block ?_)) rfl (by kernel_rfl) ?_
   intro w cd; replace st := st.call0 cd; clear cd
   have hS := st
   refine pm hS ?_
   refine pnk hS ?_
   refine pf0 hS underlying178 sizeOf9 ?_
   refine pld hS 0 isAgg9 ?_
   refine pm hS ?_
   refine pnk hS ?_
   refine pfz hS 1 underlying178 sizeOf3 ?_
   refine pld hS 0 isAgg3 ?_
   refine vp_take rfl rfl rfl hS (fun w st => y_slf (i := _) rfl rfl underlying9 rfl (by omega)) ?_
   refine vp_do rfl (e_call [_, _] rfl rfl call154 rfl (hasRem_any _ _) ?_)
   rintro _ _ ⟨rfl, rfl⟩
   refine vp_next (by exact st) ?_; intro hS
   refine vp_take rfl rfl rfl hS (fun w st => y_as rfl) ?_
   refine vp_end (vq_then (vk2 0 31 ?_))
   refine vc_ifs rfl ?_ ?_
   ·intro hc31
    try simp only [dn] at hc31
    refine vc_seq ?_
    refine vc_draw Tryz.mixed [(0, true), (1, true), (2, true), (3, true), (4, true), (5, true), (6, true), (7, true), (8, true), (9, false), (10, true)] (fun w => St _ _ _ w) st (by kernel_rfl) (by repeat (first | exact okQ_body | refine okQ_then ?_ | refine okQ_block ?_)) rfl (by kernel_rfl) ?_
    intro w cd; replace st := st.call0 cd; clear cd
    have hS := st
    refine pm hS ?_
    refine pnk hS ?_
    refine pf0 hS underlying178 sizeOf9 ?_
    refine pld hS 0 isAgg9 ?_
    refine pm hS ?_
    refine pnk hS ?_
    refine pfz hS 1 underlying178 sizeOf3 ?_
    refine pld hS 0 isAgg3 ?_
    refine vp_take rfl rfl rfl hS (fun w st => y_slf (i := _) rfl rfl underlying9 rfl (by omega)) ?_
    refine vp_do rfl (e_call [_, _] rfl rfl call227 rfl (idxByte_any _ _) ?_)
    rintro _ _ ⟨rfl, rfl⟩
    have hle := toLf_le (s.drop j)
    simp only [List.length_drop] at hle
    have hn := indexByte_lf (s.drop j)
    simp only [List.length_drop] at hn
    refine vp_next (by exact st) ?_; intro hS
    refine vp_take rfl rfl rfl hS (fun w st => y_as rfl) ?_
    refine vp_end (vq_then (vk2 0 2 (vc_seq (vc_seq (vc_region ?_)))))
    refine ym ?_
    refine vy (y_lss rfl rfl) ?_
    refine vc_end (vq_then (vk3 0 2 53 ?_))
    refine vc_ifs rfl ?_ ?_
    ·intro hc53
     try simp only [dn] at hc53
     refine vc_draw Tryz.mixed [(0, true), (1, true), (2, true), (3, true), (4, true), (5, true), (6, true), (7, true), (8, true), (9, true), (10, true)] (fun w => St _ _ _ w) st (by kernel_rfl) (by repeat (first | exact okQ_body | refine okQ_then ?_ | refine okQ_block ?_)) rfl (by kernel_rfl) ?_
     intro w cd; replace st := st.call0 cd; clear cd
     have hS := st
     refine pm hS ?_
     refine pnk hS ?_
     refine pf0 hS underlying178 sizeOf9 ?_
     refine pld hS 0 isAgg9 ?_
     refine vp_take rfl rfl rfl hS (fun w st => y_lens rfl underlying9) ?_
     refine pm hS ?_
     refine pnk hS ?_
     refine pfz hS 1 underlying178 sizeOf3 ?_
     refine pld hS 0 isAgg3 ?_
     refine vp_take rfl rfl rfl hS (fun w st => y_sub rfl rfl rfl (by omega) (by omega)) ?_
     refine vp_take rfl rfl rfl hS (fun w st => y_as rfl) ?_
     refine vp_end (vq_then (vk2 0 2 (vc_region ?_)))
     refine ym ?_
     refine ynk ?_
     refine yfz 1 underlying178 sizeOf3 ?_
     refine yl st 0 isAgg3 ?_
     refine ym ?_
     refine vy (y_add rfl rfl (by omega : _ = ((j + toLf (List.drop j s) : Nat) : Int)) (by omega) (by omega)) ?_
     refine ynk ?_
     refine yfz 1 underlying178 sizeOf3 ?_
     first
     | refine vc_e (e_st st 0 rfl rfl rfl rfl sizeOf3 rfl rfl (by (left; simp)) ?_)
     intro w st; dsimp only [setNth, wr] at st
     refine vc_end (vq_block (vq_block ?_))
     refine vq_again (j + toLf (List.drop j s))  ⟨rfl, trivial⟩ st ?_ ?_
     ·exact ⟨by omega, by rw [skip_rem hc31, List.drop_drop] at he; omega⟩
     ·have := toLf_pos hc31; omega
    ·intro hc53
     try simp only [dn] at hc53
     refine vc_code_skip (vq_then (vk2 0 2 (vc_region ?_)))
     refine ym ?_
     refine ynk ?_
     refine yfz 1 underlying178 sizeOf3 ?_
     refine yl st 0 isAgg3 ?_
     refine ym ?_
     refine vy (y_add rfl rfl (by omega : _ = ((j + toLf (List.drop j s) : Nat) : Int)) (by omega) (by omega)) ?_
     refine ynk ?_
     refine yfz 1 underlying178 sizeOf3 ?_
     first
     | refine vc_e (e_st st 0 rfl rfl rfl rfl sizeOf3 rfl rfl (by (left; simp)) ?_)
     intro w st; dsimp only [setNth, wr] at st
     refine vc_end (vq_block (vq_block ?_))
     refine vq_again (j + toLf (List.drop j s))  ⟨rfl, trivial⟩ st ?_ ?_
     ·exact ⟨by omega, by rw [skip_rem hc31, List.drop_drop] at he; omega⟩
     ·have := toLf_pos hc31; omega
   ·intro hc31
    try simp only [dn] at hc31
    refine vc_ret (vq_block_ret (vq_block_ret (vq_then_ret (vq_block_ret ?_))))
    refine vq_ret0 (.inl rfl) results197 ?_
    refine ⟨_, rfl, ?_⟩
    exact ⟨rfl, st.chg, by have h := st.res (i := 0) rfl; rw [hd] at hc31; rw [hd, skip_other hc13 hc31] at he; rw [show i + skip (List.drop i s) = j by omega]; exact h⟩
 ·intro hc12
  try simp only [dn] at hc12
  obtain rfl : j = s.length := by omega
  simp only [List.drop_length, skip_nil] at he
  refine vc_exit (vq_then_exit (vq_then_exit (vq_block_exit ?_)))
  refine vq_ret0 (.inr rfl) results197 ?_
  refine ⟨_, rfl, ?_⟩
  exact ⟨rfl, st.chg, by have h := st.res (i := 0) rfl; rw [show i + skip (List.drop i s) = s.length by omega]; exact h⟩

end Go.Proofs.YtnmhlpnapgojjaaGreatDoor.Pq


namespace Go.Proofs.YtnmhlpnapgojjaaGreatDoor.Pq
open Go.RowKit Sx LexS _root_.Go.Proofs.Tryz
abbrev tokL (t : Tok) : List Value := [.int .u8 (t.kind : Int), str t.text, .int .i64 (t.word : Int), .int .i64 (t.at_ : Int)]
abbrev zeroL : List Value := [.int .u8 0, str [], .int .i64 0, .int .i64 0]
/-- what a reader of tokens leaves -/
def RdPost (b : Nat) (s : List UInt8) (i : Nat) (fa fr : Int) (res : TokR) (v : Value) (w' : World) : Prop := match res with
 | .tok t => v = .agg (tokL t).toArray ∧ w'.heap[b]? = some (scn s ((i + t.text.length : Nat) : Int) fa fr)
 | .bad rule p => v = .agg zeroL.toArray ∧ ∃ j : Int, w'.heap[b]? = some (scn s j (p : Int) (rule : Int))
theorem tokAt_word {s : List UInt8} {i : Nat} (h : i < s.length) (hc : isLetter (s.getD i 0) = true) : tokAt (s.drop i) i =
    if isWord ((s.drop i).takeWhile isIdent) then .tok ⟨2, (s.drop i).takeWhile isIdent, 0, i⟩ else if 32 < ((s.drop i).takeWhile isIdent).length then .bad 2 (i + 32) else .tok ⟨1, (s.drop i).takeWhile isIdent, 0, i⟩ := by
 rw [drop_cons h]; simp only [tokAt, hc, if_true]
theorem tw_step {p : UInt8 → Bool} {s : List UInt8} {i j : Nat} (hij : i ≤ j) (hj : j < s.length) (hp : p (s.getD j 0) = true)
    (h : (s.drop i).takeWhile p = (s.drop i).take (j - i) ++ (s.drop j).takeWhile p) : (s.drop i).takeWhile p = (s.drop i).take (j + 1 - i) ++ (s.drop (j + 1)).takeWhile p := by
 rw [h, drop_cons hj, List.takeWhile_cons, if_pos hp, show j + 1 - i = (j - i) + 1 from by omega, List.take_succ_eq_append_getElem (by simp; omega)]
 simp [List.getD, hj, show i + (j - i) = j from by omega]
theorem tw_end {p : UInt8 → Bool} {s : List UInt8} {i j : Nat} (hp : j < s.length → p (s.getD j 0) = false)
    (h : (s.drop i).takeWhile p = (s.drop i).take (j - i) ++ (s.drop j).takeWhile p) : (s.drop i).takeWhile p = (s.drop i).take (j - i) := by
 by_cases hj : j < s.length
 ·rw [h, drop_cons hj, List.takeWhile_cons, hp hj]; simp
 ·have e : s.drop j = [] := List.drop_eq_nil_of_le (by omega)
  rw [h, e]; simp
theorem isIdent_of (c : UInt8) (h : isLetter c = true ∨ isDigit c = true) : isIdent c = true := by unfold isIdent; rcases h with h | h <;> simp [h]
theorem isIdent_no (c : UInt8) (h : isLetter c = false) (h' : isDigit c = false) : isIdent c = false := by unfold isIdent; simp [h, h']

theorem wrong_any (b : Nat) (s : List UInt8) (i fa fr at_ rule : Int) (w : World) (hb : w.heap[b]? = some (scn s i fa fr)) :
    Ret Tryz.prog 229 [.pointer (some ⟨b, 0, none⟩), .int .i64 at_, .int .i64 rule] w fun v w' => v = .agg zeroL.toArray ∧ Chg [b] w w' ∧ w'.heap[b]? = some (scn s i at_ rule) := by
 refine ret_of [_, _, _] func229 rfl ntmps229 rfl ?_
 have st := St.init w [b]
 replace st := St.of1 [b] hb
 refine vc_seq (vc_region ?_)
 refine vc_e (e_al (l := [_, _, _, _]) st rfl rfl zeroValue118 rfl ?_)
 intro b6 w hb6 st
 refine vc_end (vq_then (vk4 0 1 2 6 (vc_seq (vc_region ?_))))
 iterate 3 refine ym ?_
 refine vy (y_bld (.agg #[_, _]) [(0, _), (1, _)] rfl (fun w => by simp [Instr.build, go_sem] <;> repeat' constructor)) ?_
 refine ynk ?_
 refine yfz 2 underlying178 sizeOf29 ?_
 refine vc_e (e_sts (vs := [_, _]) st 1 rfl rfl rfl rfl rfl sizeOf29 rfl rfl (by (left; simp)) ?_)
 intro w st; dsimp only [setNth, wr] at st
 refine vc_end (vq_then (vk1 6 (vc_seq (vc_region ?_))))
 refine vy (y_bld (.agg #[_, _, _, _]) [] rfl (fun w => by simp [Instr.build, go_sem] <;> repeat' constructor)) ?_
 refine vc_e (e_sts (vs := [_, _, _, _]) st 0 rfl rfl rfl rfl rfl sizeOf118 rfl rfl (by (right; assumption)) ?_)
 intro w st; dsimp only [setNth, wr] at st
 refine vc_end (vq_then (vk1 6 (vc_ret ?_)))
 refine vq_ret1 st (.inl rfl) results229 (by exact .cell 0 rfl rfl isAgg118 sizeOf118) ?_
 refine ⟨_, rfl, ?_⟩
 exact ⟨rfl, st.chg, st.res (i := 1) rfl⟩

theorem word_rd (b : Nat) (s : List UInt8) (i : Nat) (fa fr : Int) (w : World) (hb : w.heap[b]? = some (scn s i fa fr)) (hi : i < s.length) (hs : s.length ≤ 3000000) (hc : isLetter (s.getD i 0) = true) :
    Ret Tryz.prog 199 [.pointer (some ⟨b, 0, none⟩)] w fun v w' => Chg [b] w w' ∧ RdPost b s i fa fr (tokAt (s.drop i) i) v w' := by
 refine ret_of [_] func199 rfl ntmps199 rfl ?_
 have st := St.init w [b]
 replace st := St.of1 [b] hb
 refine vc_seq (vc_region ?_)
 refine vc_e (e_al (l := [_, _, _, _]) st rfl rfl zeroValue118 rfl ?_)
 intro b2 w hb2 st
 refine vc_end (vq_then (vk2 0 2 (vc_seq (vc_region ?_))))
 refine ym ?_
 refine ynk ?_
 refine yfz 1 underlying178 sizeOf3 ?_
 refine yl st 1 isAgg3 ?_
 refine ya ?_
 refine vc_end (vq_then (vk3 0 2 3 (vc_seq (vc_block ?_))))
 refine vc_loop (w0 := _) (M := _) (fun _ => [(0, .pointer (some ⟨b, 0, none⟩)), (2, .pointer (some ⟨b2, 0, none⟩)), (3, .int .i64 (i : Int))]) (fun (j : Nat) => [.blk b2 (.cells zeroL.toArray 118 (0, 0)), .blk b (scn s j fa fr)]) (fun j _ => i ≤ j ∧ j ≤ s.length ∧ (s.drop i).takeWhile isIdent = (s.drop i).take (j - i) ++ (s.drop j).takeWhile isIdent) (fun j => s.length - j) i ⟨rfl, rfl, rfl, trivial⟩ st ⟨by omega, by omega, by simp⟩ ?_
 rintro j w ⟨hij, hj, he⟩ st
 refine vc_seq (vc_seq ?_)
 refine vc_draw Tryz.mixed [(0, true), (1, true), (2, true), (3, true), (4, true), (5, true), (6, true), (7, true), (8, true), (9, true), (10, true), (11, true), (12, true), (13, true), (14, true), (15, true), (16, true), (17, true), (18, true), (19, true), (20, false), (21, true), (22, true), (23, true), (24, true), (25, true), (26, true), (27, true), (28, true), (29, true), (30, true), (31, false), (32, true), (33, true)] (fun w => St _ _ _ w) st (by kernel_rfl) (by repeat (first | exact okQ_body | refine okQ_then ?_ | refine okQ_block ?_)) rfl (by kernel_rfl) ?_
 intro w cd; replace st := st.call0 cd; clear cd
 have hS := st
 refine pm hS ?_
 refine pnk hS ?_
 refine pfz hS 1 underlying178 sizeOf3 ?_
 refine pld hS 1 isAgg3 ?_
 refine pm hS ?_
 refine pnk hS ?_
 refine pf0 hS underlying178 sizeOf9 ?_
 refine pld hS 1 isAgg9 ?_
 refine vp_take rfl rfl rfl hS (fun w st => y_lens rfl underlying9) ?_
 refine vp_take rfl rfl rfl hS (fun w st => y_lss rfl rfl) ?_
 refine vp_part rfl rfl rfl hS rfl ?_ ?_
 ·intro hg19
  try simp only [dn] at hg19
  refine pm hS ?_
  refine pnk hS ?_
  refine pf0 hS underlying178 sizeOf9 ?_
  refine pld hS 1 isAgg9 ?_
  refine pm hS ?_
  refine pnk hS ?_
  refine pfz hS 1 underlying178 sizeOf3 ?_
  refine pld hS 1 isAgg3 ?_
  refine vp_take rfl rfl rfl hS (fun w st => y_ixs (k := _) rfl rfl underlying9 rfl (by omega)) ?_
  refine vp_do rfl (e_call [_] rfl rfl call115 rfl (letter_any _ _) ?_)
  rintro _ _ ⟨rfl, rfl⟩
  refine vp_next (by exact st) ?_; intro hS
  refine vp_part rfl rfl rfl hS rfl ?_ ?_
  ·intro hg30
   try simp only [dn] at hg30
   iterate 9 refine vp_skip rfl rfl rfl hS ?_
   refine vp_do rfl (e_skip rfl rfl (vp_next hS (fun hS => ?_)))
   iterate 2 refine vp_take rfl rfl rfl hS (fun w st => y_pickt rfl rfl) ?_
   refine vp_end (vq_then (vk4 0 2 3 42 ?_))
   refine vc_ift rfl ?_
   refine vc_code_skip (vq_then (vk3 0 2 3 (vc_block (vc_region ?_))))
   refine ym ?_
   refine ynk ?_
   refine yfz 1 underlying178 sizeOf3 ?_
   refine yl st 1 isAgg3 ?_
   refine vy (y_add rfl rfl rfl (by omega) (by omega)) ?_
   refine ynk ?_
   refine yfz 1 underlying178 sizeOf3 ?_
   refine vc_e (e_st st 1 rfl rfl rfl rfl sizeOf3 rfl rfl (by (left; simp)) ?_)
   intro w st; dsimp only [setNth, wr] at st
   refine vc_end (vq_block ?_)
   refine vq_again (j + 1)  ⟨rfl, rfl, rfl, trivial⟩ st ?_ ?_
   ·exact ⟨by omega, by omega, tw_step hij (by omega) (isIdent_of _ (by (left; assumption))) he⟩
   ·omega
  ·intro hg30
   try simp only [dn] at hg30
   refine pm hS ?_
   refine pnk hS ?_
   refine pf0 hS underlying178 sizeOf9 ?_
   refine pld hS 1 isAgg9 ?_
   refine pm hS ?_
   refine pnk hS ?_
   refine pfz hS 1 underlying178 sizeOf3 ?_
   refine pld hS 1 isAgg3 ?_
   refine vp_take rfl rfl rfl hS (fun w st => y_ixs (k := _) rfl rfl underlying9 rfl (by omega)) ?_
   refine vp_do rfl (e_call [_] rfl rfl call113 rfl (digit_any _ _) ?_)
   rintro _ _ ⟨rfl, rfl⟩
   refine vp_next (by exact st) ?_; intro hS
   refine vp_take rfl rfl rfl hS (fun w st => y_pickf rfl rfl) ?_
   refine vp_take rfl rfl rfl hS (fun w st => y_pickt rfl rfl) ?_
   refine vp_end (vq_then (vk4 0 2 3 42 ?_))
   refine vc_ifs rfl ?_ ?_
   ·intro hc42
    try simp only [dn] at hc42
    refine vc_code_skip (vq_then (vk3 0 2 3 (vc_block (vc_region ?_))))
    refine ym ?_
    refine ynk ?_
    refine yfz 1 underlying178 sizeOf3 ?_
    refine yl st 1 isAgg3 ?_
    refine vy (y_add rfl rfl rfl (by omega) (by omega)) ?_
    refine ynk ?_
    refine yfz 1 underlying178 sizeOf3 ?_
    refine vc_e (e_st st 1 rfl rfl rfl rfl sizeOf3 rfl rfl (by (left; simp)) ?_)
    intro w st; dsimp only [setNth, wr] at st
    refine vc_end (vq_block ?_)
    refine vq_again (j + 1)  ⟨rfl, rfl, rfl, trivial⟩ st ?_ ?_
    ·exact ⟨by omega, by omega, tw_step hij (by omega) (isIdent_of _ (by (right; assumption))) he⟩
    ·omega
   ·intro hc42
    try simp only [dn] at hc42
    have hT := tw_end (fun _ => isIdent_no _ (by assumption) (by assumption)) he
    refine vc_exit (vq_then_exit (vq_then_exit (vq_block_exit (vq_then (vk3 0 2 3 (vc_seq ?_))))))
    refine vc_draw Tryz.mixed [(0, true), (1, true), (2, true), (3, true), (4, true), (5, true), (6, true), (7, true), (8, true), (9, true), (10, true), (11, true), (12, false), (13, false)] (fun w => St _ _ [.blk b (scn s j fa fr)] w) st.dr (by kernel_rfl) (by repeat (first | exact okQ_body | refine okQ_then ?_ | refine okQ_block ?_)) rfl (by kernel_rfl) ?_
    intro w cd; replace st := st.call0 cd; clear cd
    have hS : St _ _ [.blk b (scn s j fa fr)] w := st.dr
    refine pm hS ?_
    refine pnk hS ?_
    refine pf0 hS underlying178 sizeOf9 ?_
    refine pld hS 0 isAgg9 ?_
    iterate 2 refine pm hS ?_
    refine pnk hS ?_
    refine pfz hS 1 underlying178 sizeOf3 ?_
    refine pld hS 0 isAgg3 ?_
    refine vp_take rfl rfl rfl hS (fun w st => y_sls (i := _) (j := _) rfl rfl rfl underlying9 rfl rfl (by omega) (by omega)) ?_
    refine pm hS ?_
    refine vp_take rfl rfl rfl hS (fun w st => y_bld (.agg #[_, _, _, _]) [(0, _), (1, _), (3, _)] rfl (fun w => by simp [Instr.build, go_sem] <;> repeat' constructor)) ?_
    refine vp_do rfl (e_al (l := [_, _, _, _]) st rfl rfl zeroValue118 rfl ?_)
    intro b4 w hb4 st
    refine vp_next st.dr ?_; intro hS
    refine vp_do rfl (e_sts (vs := [_, _, _, _]) st 0 rfl rfl rfl rfl rfl sizeOf118 rfl rfl (by (right; assumption)) ?_)
    intro w st; dsimp only [setNth, wr] at st
    refine vp_next st.dr ?_; intro hS
    refine vp_end (vq_then (vk4 0 2 3 4 (vc_seq (vc_seq (vc_region ?_)))))
    refine yfz 1 underlying118 sizeOf9 ?_
    refine yl st 0 isAgg9 ?_
    refine vc_e (e_call [_] rfl rfl call114 rfl (word_any _ _) ?_)
    rintro _ _ ⟨rfl, rfl⟩
    refine vc_end (vq_then (vk5 0 2 3 4 64 ?_))
    refine vc_ifs rfl ?_ ?_
    ·intro hc64
     try simp only [dn] at hc64
     refine vc_region ?_
     refine vy (y_fa0 rfl underlying118 rfl rfl sizeOf116 rfl) ?_
     refine vc_e (e_st st 0 rfl rfl rfl rfl sizeOf116 rfl rfl (by (right; assumption)) ?_)
     intro w st; dsimp only [setNth, wr] at st
     refine vc_end (vq_then (vk2 2 4 (vc_seq (vc_region ?_))))
     refine yla st 0 [_, _, _, _] isAgg118 sizeOf118 ?_
     refine vc_e (e_sts (vs := [_, _, _, _]) st 1 rfl rfl rfl rfl rfl sizeOf118 rfl rfl (by (right; assumption)) ?_)
     intro w st; dsimp only [setNth, wr] at st
     refine vc_end (vq_then (vk1 2 (vc_ret ?_)))
     refine vq_ret1 st (.inl rfl) results199 (by exact .cell 1 rfl rfl isAgg118 sizeOf118) ?_
     refine ⟨_, rfl, ?_⟩
     have hlen : (List.take (j - i) (List.drop i s)).length = j - i := by simp; omega
     refine ⟨st.chg, ?_⟩
     rw [tokAt_word hi hc, hT]
     (rw [if_pos hc64]; exact ⟨rfl, by dsimp only; rw [hlen, show i + (j - i) = j from by omega]; exact st.res (i := 2) rfl⟩)
    ·intro hc64
     try simp only [dn] at hc64
     refine vc_seq (vc_region ?_)
     refine yfz 1 underlying118 sizeOf9 ?_
     refine yl st 0 isAgg9 ?_
     refine vy (y_lens rfl underlying9) ?_
     refine vy (y_gtr rfl rfl) ?_
     refine vc_end (vq_then (vk5 0 2 3 4 69 ?_))
     refine vc_ifs rfl ?_ ?_
     ·intro hc69
      try simp only [dn] at hc69
      refine vc_seq (vc_region ?_)
      iterate 2 refine ym ?_
      refine vy (y_add rfl rfl rfl (by omega) (by omega)) ?_
      refine vc_e (e_call [_, _, _] rfl rfl call229 rfl (wrong_any b s _ _ _ _ _ _ (st.res (i := 2) rfl)) ?_)
      rintro _ w ⟨rfl, cw, hw⟩
      replace st := st.turn (i := 2) (r' := .blk b _) rfl rfl rfl cw (.inl (by simp)) hw
      dsimp only [setNth] at st
      refine vc_e (e_sts (vs := [_, _, _, _]) st 1 rfl rfl rfl rfl rfl sizeOf118 rfl rfl (by (right; assumption)) ?_)
      intro w st; dsimp only [setNth, wr] at st
      refine vc_end (vq_then (vk1 2 (vc_ret (vq_then_ret ?_))))
      refine vq_ret1 st (.inl rfl) results199 (by exact .cell 1 rfl rfl isAgg118 sizeOf118) ?_
      refine ⟨_, rfl, ?_⟩
      have hlen : (List.take (j - i) (List.drop i s)).length = j - i := by simp; omega
      refine ⟨st.chg, ?_⟩
      rw [tokAt_word hi hc, hT]
      (rw [if_neg (by rw [hc64]; simp), if_pos (by omega)]; exact ⟨rfl, _, st.res (i := 2) rfl⟩)
     ·intro hc69
      try simp only [dn] at hc69
      refine vc_code_skip (vq_then (vk2 2 4 (vc_seq (vc_region ?_))))
      refine yla st 0 [_, _, _, _] isAgg118 sizeOf118 ?_
      refine vc_e (e_sts (vs := [_, _, _, _]) st 1 rfl rfl rfl rfl rfl sizeOf118 rfl rfl (by (right; assumption)) ?_)
      intro w st; dsimp only [setNth, wr] at st
      refine vc_end (vq_then (vk1 2 (vc_ret ?_)))
      refine vq_ret1 st (.inl rfl) results199 (by exact .cell 1 rfl rfl isAgg118 sizeOf118) ?_
      refine ⟨_, rfl, ?_⟩
      have hlen : (List.take (j - i) (List.drop i s)).length = j - i := by simp; omega
      refine ⟨st.chg, ?_⟩
      rw [tokAt_word hi hc, hT]
      (rw [if_neg (by rw [hc64]; simp), if_neg (by omega)]; exact ⟨rfl, by dsimp only; rw [hlen, show i + (j - i) = j from by omega]; exact st.res (i := 2) rfl⟩)
 ·intro hg19
  try simp only [dn] at hg19
  have hT := tw_end (fun h => absurd h (by omega)) he
  iterate 9 refine vp_skip rfl rfl rfl hS ?_
  refine vp_do rfl (e_skip rfl rfl (vp_next hS (fun hS => ?_)))
  iterate 10 refine vp_skip rfl rfl rfl hS ?_
  refine vp_do rfl (e_skip rfl rfl (vp_next hS (fun hS => ?_)))
  refine vp_skip rfl rfl rfl hS ?_
  refine vp_take rfl rfl rfl hS (fun w st => y_pickf rfl rfl) ?_
  refine vp_end (vq_then (vk4 0 2 3 42 ?_))
  refine vc_iff rfl ?_
  refine vc_exit (vq_then_exit (vq_then_exit (vq_block_exit (vq_then (vk3 0 2 3 (vc_seq ?_))))))
  refine vc_draw Tryz.mixed [(0, true), (1, true), (2, true), (3, true), (4, true), (5, true), (6, true), (7, true), (8, true), (9, true), (10, true), (11, true), (12, false), (13, false)] (fun w => St _ _ [.blk b (scn s j fa fr)] w) st.dr (by kernel_rfl) (by repeat (first | exact okQ_body | refine okQ_then ?_ | refine okQ_block ?_)) rfl (by kernel_rfl) ?_
  intro w cd; replace st := st.call0 cd; clear cd
  have hS : St _ _ [.blk b (scn s j fa fr)] w := st.dr
  refine pm hS ?_
  refine pnk hS ?_
  refine pf0 hS underlying178 sizeOf9 ?_
  refine pld hS 0 isAgg9 ?_
  iterate 2 refine pm hS ?_
  refine pnk hS ?_
  refine pfz hS 1 underlying178 sizeOf3 ?_
  refine pld hS 0 isAgg3 ?_
  refine vp_take rfl rfl rfl hS (fun w st => y_sls (i := _) (j := _) rfl rfl rfl underlying9 rfl rfl (by omega) (by omega)) ?_
  refine pm hS ?_
  refine vp_take rfl rfl rfl hS (fun w st => y_bld (.agg #[_, _, _, _]) [(0, _), (1, _), (3, _)] rfl (fun w => by simp [Instr.build, go_sem] <;> repeat' constructor)) ?_
  refine vp_do rfl (e_al (l := [_, _, _, _]) st rfl rfl zeroValue118 rfl ?_)
  intro b4 w hb4 st
  refine vp_next st.dr ?_; intro hS
  refine vp_do rfl (e_sts (vs := [_, _, _, _]) st 0 rfl rfl rfl rfl rfl sizeOf118 rfl rfl (by (right; assumption)) ?_)
  intro w st; dsimp only [setNth, wr] at st
  refine vp_next st.dr ?_; intro hS
  refine vp_end (vq_then (vk4 0 2 3 4 (vc_seq (vc_seq (vc_region ?_)))))
  refine yfz 1 underlying118 sizeOf9 ?_
  refine yl st 0 isAgg9 ?_
  refine vc_e (e_call [_] rfl rfl call114 rfl (word_any _ _) ?_)
  rintro _ _ ⟨rfl, rfl⟩
  refine vc_end (vq_then (vk5 0 2 3 4 64 ?_))
  refine vc_ifs rfl ?_ ?_
  ·intro hc64
   try simp only [dn] at hc64
   refine vc_region ?_
   refine vy (y_fa0 rfl underlying118 rfl rfl sizeOf116 rfl) ?_
   refine vc_e (e_st st 0 rfl rfl rfl rfl sizeOf116 rfl rfl (by (right; assumption)) ?_)
   intro w st; dsimp only [setNth, wr] at st
   refine vc_end (vq_then (vk2 2 4 (vc_seq (vc_region ?_))))
   refine yla st 0 [_, _, _, _] isAgg118 sizeOf118 ?_
   refine vc_e (e_sts (vs := [_, _, _, _]) st 1 rfl rfl rfl rfl rfl sizeOf118 rfl rfl (by (right; assumption)) ?_)
   intro w st; dsimp only [setNth, wr] at st
   refine vc_end (vq_then (vk1 2 (vc_ret ?_)))
   refine vq_ret1 st (.inl rfl) results199 (by exact .cell 1 rfl rfl isAgg118 sizeOf118) ?_
   refine ⟨_, rfl, ?_⟩
   have hlen : (List.take (j - i) (List.drop i s)).length = j - i := by simp; omega
   refine ⟨st.chg, ?_⟩
   rw [tokAt_word hi hc, hT]
   (rw [if_pos hc64]; exact ⟨rfl, by dsimp only; rw [hlen, show i + (j - i) = j from by omega]; exact st.res (i := 2) rfl⟩)
  ·intro hc64
   try simp only [dn] at hc64
   refine vc_seq (vc_region ?_)
   refine yfz 1 underlying118 sizeOf9 ?_
   refine yl st 0 isAgg9 ?_
   refine vy (y_lens rfl underlying9) ?_
   refine vy (y_gtr rfl rfl) ?_
   refine vc_end (vq_then (vk5 0 2 3 4 69 ?_))
   refine vc_ifs rfl ?_ ?_
   ·intro hc69
    try simp only [dn] at hc69
    refine vc_seq (vc_region ?_)
    iterate 2 refine ym ?_
    refine vy (y_add rfl rfl rfl (by omega) (by omega)) ?_
    refine vc_e (e_call [_, _, _] rfl rfl call229 rfl (wrong_any b s _ _ _ _ _ _ (st.res (i := 2) rfl)) ?_)
    rintro _ w ⟨rfl, cw, hw⟩
    replace st := st.turn (i := 2) (r' := .blk b _) rfl rfl rfl cw (.inl (by simp)) hw
    dsimp only [setNth] at st
    refine vc_e (e_sts (vs := [_, _, _, _]) st 1 rfl rfl rfl rfl rfl sizeOf118 rfl rfl (by (right; assumption)) ?_)
    intro w st; dsimp only [setNth, wr] at st
    refine vc_end (vq_then (vk1 2 (vc_ret (vq_then_ret ?_))))
    refine vq_ret1 st (.inl rfl) results199 (by exact .cell 1 rfl rfl isAgg118 sizeOf118) ?_
    refine ⟨_, rfl, ?_⟩
    have hlen : (List.take (j - i) (List.drop i s)).length = j - i := by simp; omega
    refine ⟨st.chg, ?_⟩
    rw [tokAt_word hi hc, hT]
    (rw [if_neg (by rw [hc64]; simp), if_pos (by omega)]; exact ⟨rfl, _, st.res (i := 2) rfl⟩)
   ·intro hc69
    try simp only [dn] at hc69
    refine vc_code_skip (vq_then (vk2 2 4 (vc_seq (vc_region ?_))))
    refine yla st 0 [_, _, _, _] isAgg118 sizeOf118 ?_
    refine vc_e (e_sts (vs := [_, _, _, _]) st 1 rfl rfl rfl rfl rfl sizeOf118 rfl rfl (by (right; assumption)) ?_)
    intro w st; dsimp only [setNth, wr] at st
    refine vc_end (vq_then (vk1 2 (vc_ret ?_)))
    refine vq_ret1 st (.inl rfl) results199 (by exact .cell 1 rfl rfl isAgg118 sizeOf118) ?_
    refine ⟨_, rfl, ?_⟩
    have hlen : (List.take (j - i) (List.drop i s)).length = j - i := by simp; omega
    refine ⟨st.chg, ?_⟩
    rw [tokAt_word hi hc, hT]
    (rw [if_neg (by rw [hc64]; simp), if_neg (by omega)]; exact ⟨rfl, by dsimp only; rw [hlen, show i + (j - i) = j from by omega]; exact st.res (i := 2) rfl⟩)

end Go.Proofs.YtnmhlpnapgojjaaGreatDoor.Pq


namespace Go.Proofs.YtnmhlpnapgojjaaGreatDoor.Pq
open Go.RowKit Sx LexS _root_.Go.Proofs.Tryz
theorem contains1_any (c : UInt8) (w : World) : Ret Tryz.prog 244 [str signs1, str [c]] w fun v w' => v = .bool (signs1.contains c) ∧ w' = w :=
 (Tryz.strings_Contains_one ⟨signs1.toArray⟩ c w).mono fun e w' ⟨he, hw⟩ => ⟨_, he, by rw [contains_ib], hw⟩
theorem tokAt_sign {s : List UInt8} {i : Nat} (h : i < s.length) (hc : isLetter (s.getD i 0) = false) (hd : isDigit (s.getD i 0) = false) : tokAt (s.drop i) i =
    if isSign2 ((s.drop i).take 2) then .tok ⟨4, (s.drop i).take 2, 0, i⟩ else if isSign1 ((s.drop i).take 1) then .tok ⟨4, (s.drop i).take 1, 0, i⟩ else .bad 1 i := by
 rw [drop_cons h]; simp only [tokAt, hc, hd, Bool.false_eq_true, if_false, List.take_succ_cons, List.take_zero]; rfl
theorem isSign2_len {l : List UInt8} (h : isSign2 l = true) : l.length = 2 := by
 simp only [isSign2, decide_eq_true_eq] at h
 rcases h with h | h | h | h | h | h <;> simp [h]
theorem isSign1_len {l : List UInt8} (h : isSign1 l = true) : l.length = 1 := by
 match l, h with
 | [], h => simp [isSign1] at h
 | [_], _ => rfl
 | _ :: _ :: _, h => simp [isSign1] at h

set_option maxHeartbeats 1000000 in
theorem sign_any (l : List UInt8) (w : World) : Ret Tryz.prog 228 [str l] w fun v w' => v = .bool (isSign l) ∧ w' = w := by
 refine ret_of [_] func228 rfl ntmps228 rfl ?_
 have st := St.init w []
 refine vc_seq (vc_region ?_)
 refine ya ?_
 refine vc_end (vq_then (vk1 0 (vc_seq (vc_seq (vc_region ?_)))))
 refine ym ?_
 refine vc_end (vq_then (vk2 0 3 (vc_block (vc_seq (vc_seq (vc_region ?_))))))
 refine vy (y_eqs rfl rfl) ?_
 refine ya ?_
 refine vc_end (vq_then (vk3 0 3 4 ?_))
 refine vc_ifs rfl ?_ ?_
 ·intro hc4
  try simp only [dn] at hc4
  refine vc_code_skip (vq_then (vk2 0 4 ?_))
  refine vc_ift rfl ?_
  refine vc_seq (vc_region ?_)
  refine ya ?_
  refine vc_end (vq_then (vk1 2 (vc_ret (vq_block_ret (vq_then_ret ?_)))))
  refine vq_ret1 st (.inl rfl) results228 (.tmp rfl) ?_
  refine ⟨_, rfl, ?_⟩
  refine ⟨?_, rfl⟩
  rw [Value.bool.injEq]
  (symm; simp only [isSign, isSign2, Bool.or_eq_true, decide_eq_true_eq]; simp only [*, true_or, or_true]; done)
 ·intro hc4
  try simp only [dn] at hc4
  refine vc_seq (vc_region ?_)
  refine vy (y_eqs rfl rfl) ?_
  refine ya ?_
  refine vc_end (vq_then (vk3 0 3 4 ?_))
  refine vc_ifs rfl ?_ ?_
  ·intro hc4
   try simp only [dn] at hc4
   refine vc_code_skip (vq_then (vk2 0 4 ?_))
   refine vc_ift rfl ?_
   refine vc_seq (vc_region ?_)
   refine ya ?_
   refine vc_end (vq_then (vk1 2 (vc_ret (vq_block_ret (vq_then_ret ?_)))))
   refine vq_ret1 st (.inl rfl) results228 (.tmp rfl) ?_
   refine ⟨_, rfl, ?_⟩
   refine ⟨?_, rfl⟩
   rw [Value.bool.injEq]
   (symm; simp only [isSign, isSign2, Bool.or_eq_true, decide_eq_true_eq]; simp only [*, true_or, or_true]; done)
  ·intro hc4
   try simp only [dn] at hc4
   refine vc_seq (vc_region ?_)
   refine vy (y_eqs rfl rfl) ?_
   refine ya ?_
   refine vc_end (vq_then (vk3 0 3 4 ?_))
   refine vc_ifs rfl ?_ ?_
   ·intro hc4
    try simp only [dn] at hc4
    refine vc_code_skip (vq_then (vk2 0 4 ?_))
    refine vc_ift rfl ?_
    refine vc_seq (vc_region ?_)
    refine ya ?_
    refine vc_end (vq_then (vk1 2 (vc_ret (vq_block_ret (vq_then_ret ?_)))))
    refine vq_ret1 st (.inl rfl) results228 (.tmp rfl) ?_
    refine ⟨_, rfl, ?_⟩
    refine ⟨?_, rfl⟩
    rw [Value.bool.injEq]
    (symm; simp only [isSign, isSign2, Bool.or_eq_true, decide_eq_true_eq]; simp only [*, true_or, or_true]; done)
   ·intro hc4
    try simp only [dn] at hc4
    refine vc_seq (vc_region ?_)
    refine vy (y_eqs rfl rfl) ?_
    refine ya ?_
    refine vc_end (vq_then (vk3 0 3 4 ?_))
    refine vc_ifs rfl ?_ ?_
    ·intro hc4
     try simp only [dn] at hc4
     refine vc_code_skip (vq_then (vk2 0 4 ?_))
     refine vc_ift rfl ?_
     refine vc_seq (vc_region ?_)
     refine ya ?_
     refine vc_end (vq_then (vk1 2 (vc_ret (vq_block_ret (vq_then_ret ?_)))))
     refine vq_ret1 st (.inl rfl) results228 (.tmp rfl) ?_
     refine ⟨_, rfl, ?_⟩
     refine ⟨?_, rfl⟩
     rw [Value.bool.injEq]
     (symm; simp only [isSign, isSign2, Bool.or_eq_true, decide_eq_true_eq]; simp only [*, true_or, or_true]; done)
    ·intro hc4
     try simp only [dn] at hc4
     refine vc_seq (vc_region ?_)
     refine vy (y_eqs rfl rfl) ?_
     refine ya ?_
     refine vc_end (vq_then (vk3 0 3 4 ?_))
     refine vc_ifs rfl ?_ ?_
     ·intro hc4
      try simp only [dn] at hc4
      refine vc_code_skip (vq_then (vk2 0 4 ?_))
      refine vc_ift rfl ?_
      refine vc_seq (vc_region ?_)
      refine ya ?_
      refine vc_end (vq_then (vk1 2 (vc_ret (vq_block_ret (vq_then_ret ?_)))))
      refine vq_ret1 st (.inl rfl) results228 (.tmp rfl) ?_
      refine ⟨_, rfl, ?_⟩
      refine ⟨?_, rfl⟩
      rw [Value.bool.injEq]
      (symm; simp only [isSign, isSign2, Bool.or_eq_true, decide_eq_true_eq]; simp only [*, true_or, or_true]; done)
     ·intro hc4
      try simp only [dn] at hc4
      refine vc_region ?_
      refine vy (y_eqs rfl rfl) ?_
      refine ya ?_
      refine vc_end (vq_then (vk2 0 4 ?_))
      refine vc_ifs rfl ?_ ?_
      ·intro hc4
       try simp only [dn] at hc4
       refine vc_seq (vc_region ?_)
       refine ya ?_
       refine vc_end (vq_then (vk1 2 (vc_ret (vq_block_ret (vq_then_ret ?_)))))
       refine vq_ret1 st (.inl rfl) results228 (.tmp rfl) ?_
       refine ⟨_, rfl, ?_⟩
       refine ⟨?_, rfl⟩
       rw [Value.bool.injEq]
       (symm; simp only [isSign, isSign2, Bool.or_eq_true, decide_eq_true_eq]; simp only [*, true_or, or_true]; done)
      ·intro hc4
       try simp only [dn] at hc4
       refine vc_code_skip (vq_block (vq_then (vk1 0 (vc_seq (vc_region ?_)))))
       refine ym ?_
       refine vy (y_lens rfl underlying9) ?_
       refine vy (y_eqi rfl rfl) ?_
       refine vmb ?_ ?_
       ·intro hg14
        try simp only [dn] at hg14
        obtain ⟨c, rfl⟩ : ∃ c, l = [c] := by
         match l, hg14 with
         | [c], _ => exact ⟨c, rfl⟩
         | [], h => simp at h
         | _ :: _ :: _, h => simp at h; omega
        refine ym ?_
        refine vc_e (e_call [_, _] rfl rfl call244 rfl (contains1_any _ _) ?_)
        rintro _ _ ⟨rfl, rfl⟩
        refine ypt ?_
        refine ya ?_
        refine vc_end (vq_then (vk1 2 (vc_ret ?_)))
        refine vq_ret1 st (.inl rfl) results228 (.tmp rfl) ?_
        refine ⟨_, rfl, ?_⟩
        refine ⟨?_, rfl⟩
        rw [Value.bool.injEq]
        first
        | (have h2 : isSign2 [c] = false := by simp [isSign2]
           simp [isSign, h2, isSign1]; done)
       ·intro hg14
        try simp only [dn] at hg14
        iterate 2 refine vsk ?_
        refine ypf ?_
        refine ya ?_
        refine vc_end (vq_then (vk1 2 (vc_ret ?_)))
        refine vq_ret1 st (.inl rfl) results228 (.tmp rfl) ?_
        refine ⟨_, rfl, ?_⟩
        refine ⟨?_, rfl⟩
        rw [Value.bool.injEq]
        first
        | (have h2 : isSign2 l = false := by simp only [isSign2, decide_eq_false_iff_not]; simp only [*, or_self, not_false_eq_true]
           have h1 : isSign1 l = false := by
             cases h : isSign1 l
             · rfl
             · have := isSign1_len h; omega
           simp [isSign, h1, h2])

theorem sign_rd (b : Nat) (s : List UInt8) (i : Nat) (fa fr : Int) (w : World) (hb : w.heap[b]? = some (scn s i fa fr)) (hi : i < s.length) (hs : s.length ≤ 3000000) (hc : isLetter (s.getD i 0) = false) (hd : isDigit (s.getD i 0) = false) :
    Ret Tryz.prog 198 [.pointer (some ⟨b, 0, none⟩)] w fun v w' => Chg [b] w w' ∧ RdPost b s i fa fr (tokAt (s.drop i) i) v w' := by
 refine ret_of [_] func198 rfl ntmps198 rfl ?_
 have st := St.init w [b]
 replace st := St.of1 [b] hb
 refine vc_seq (vc_region ?_)
 refine vc_e (e_al (l := [_, _, _, _]) st rfl rfl zeroValue118 rfl ?_)
 intro b2 w hb2 st
 refine vc_end (vq_then (vk2 0 2 (vc_seq (vc_seq (vc_region ?_)))))
 refine ya ?_
 refine vc_end (vq_then (vk3 0 2 3 (vc_block ?_)))
 refine vc_loop (w0 := _) (M := _) (fun (m : Nat) => [(0, .pointer (some ⟨b, 0, none⟩)), (2, .pointer (some ⟨b2, 0, none⟩)), (3, .int .i64 (m : Int))]) (fun (_ : Nat) => [.blk b2 (.cells zeroL.toArray 118 (0, 0)), .blk b (scn s i fa fr)]) (fun m _ => m ≤ 2 ∧ (m < 2 → isSign2 ((s.drop i).take 2) = false) ∧ (m < 1 → isSign1 ((s.drop i).take 1) = false)) (fun m => m) 2 ⟨rfl, rfl, rfl, trivial⟩ st ⟨by omega, by omega, by omega⟩ ?_
 rintro m w ⟨hm, h2, h1⟩ st
 refine vc_seq (vc_seq (vc_region ?_))
 refine ym ?_
 refine vy (y_gtr rfl rfl) ?_
 refine vc_end (vq_then (vk4 0 2 3 5 ?_))
 refine vc_ifs rfl ?_ ?_
 ·intro hc5
  try simp only [dn] at hc5
  refine vc_code_skip (vq_then (vk3 0 2 3 (vc_seq (vc_block (vc_seq ?_)))))
  refine vc_draw Tryz.mixed [(0, true), (1, true), (2, true), (3, true), (4, true), (5, true), (6, true), (7, true), (8, true), (9, true), (10, true), (11, true), (12, true), (13, true), (14, true), (15, true), (16, true), (17, true), (18, true), (19, true), (20, true), (21, true), (22, true), (23, true), (24, true), (25, true), (26, true), (27, true), (28, false), (29, true)] (fun w => St _ _ _ w) st (by kernel_rfl) (by repeat (first | exact okQ_body | refine okQ_then ?_ | refine okQ_block ?_)) rfl (by kernel_rfl) ?_
  intro w cd; replace st := st.call0 cd; clear cd
  have hS := st
  refine pm hS ?_
  refine pnk hS ?_
  refine pfz hS 1 underlying178 sizeOf3 ?_
  refine pld hS 1 isAgg3 ?_
  refine pm hS ?_
  refine vp_take rfl rfl rfl hS (fun w st => y_add rfl rfl rfl (by omega) (by omega)) ?_
  refine pm hS ?_
  refine pnk hS ?_
  refine pf0 hS underlying178 sizeOf9 ?_
  refine pld hS 1 isAgg9 ?_
  refine vp_take rfl rfl rfl hS (fun w st => y_lens rfl underlying9) ?_
  refine vp_take rfl rfl rfl hS (fun w st => y_leq rfl rfl) ?_
  refine vp_part rfl rfl rfl hS rfl ?_ ?_
  ·intro hg20
   try simp only [dn] at hg20
   refine pm hS ?_
   refine pnk hS ?_
   refine pf0 hS underlying178 sizeOf9 ?_
   refine pld hS 1 isAgg9 ?_
   refine pm hS ?_
   refine pnk hS ?_
   refine pfz hS 1 underlying178 sizeOf3 ?_
   refine pld hS 1 isAgg3 ?_
   refine pm hS ?_
   refine pnk hS ?_
   refine pfz hS 1 underlying178 sizeOf3 ?_
   refine pld hS 1 isAgg3 ?_
   refine pm hS ?_
   refine vp_take rfl rfl rfl hS (fun w st => y_add rfl rfl rfl (by omega) (by omega)) ?_
   refine vp_take rfl rfl rfl hS (fun w st => y_sls (i := _) (j := (i + m)) rfl rfl rfl underlying9 rfl rfl (by omega) (by omega)) ?_
   refine vp_do rfl (e_call [_] rfl rfl call228 rfl (sign_any _ _) ?_)
   rintro _ _ ⟨rfl, rfl⟩
   refine vp_next (by exact st) ?_; intro hS
   refine vp_take rfl rfl rfl hS (fun w st => y_pickt rfl rfl) ?_
   refine vp_end (vq_then (vk4 0 2 3 37 ?_))
   refine vc_ifs rfl ?_ ?_
   ·intro hc37
    try simp only [dn] at hc37
    refine vc_seq (vc_region ?_)
    refine ym ?_
    refine ynk ?_
    refine yfz 1 underlying178 sizeOf3 ?_
    refine yl st 1 isAgg3 ?_
    refine ym ?_
    refine vy (y_add rfl rfl rfl (by omega) (by omega)) ?_
    refine ynk ?_
    refine yfz 1 underlying178 sizeOf3 ?_
    refine vc_e (e_st st 1 rfl rfl rfl rfl sizeOf3 rfl rfl (by (left; simp)) ?_)
    intro w st; dsimp only [setNth, wr] at st
    refine vc_end (vq_then (vk3 0 2 3 (vc_seq ?_)))
    refine vc_draw Tryz.mixed [(0, true), (1, true), (2, true), (3, true), (4, true), (5, true), (6, true), (7, true), (8, true), (9, true), (10, true), (11, true), (12, true), (13, true), (14, true), (15, true), (16, true), (17, true), (18, true), (19, true), (20, true), (21, true), (22, false)] (fun w => St _ _ [.blk b (scn s ((i : Int) + m) fa fr)] w) st.dr (by kernel_rfl) (by repeat (first | exact okQ_body | refine okQ_then ?_ | refine okQ_block ?_)) rfl (by kernel_rfl) ?_
    intro w cd; replace st := st.call0 cd; clear cd
    have hS : St _ _ [.blk b (scn s ((i : Int) + m) fa fr)] w := st.dr
    refine pm hS ?_
    refine pnk hS ?_
    refine pf0 hS underlying178 sizeOf9 ?_
    refine pld hS 0 isAgg9 ?_
    refine pm hS ?_
    refine pnk hS ?_
    refine pfz hS 1 underlying178 sizeOf3 ?_
    refine pld hS 0 isAgg3 ?_
    refine pm hS ?_
    refine vp_take rfl rfl rfl hS (fun w st => y_sub rfl rfl (by omega : _ = (i : Int)) (by omega) (by omega)) ?_
    refine pm hS ?_
    refine pnk hS ?_
    refine pfz hS 1 underlying178 sizeOf3 ?_
    refine pld hS 0 isAgg3 ?_
    refine vp_take rfl rfl rfl hS (fun w st => y_sls (i := i) (j := (i + m)) rfl rfl rfl underlying9 rfl rfl (by omega) (by omega)) ?_
    refine pm hS ?_
    refine pnk hS ?_
    refine pfz hS 1 underlying178 sizeOf3 ?_
    refine pld hS 0 isAgg3 ?_
    refine pm hS ?_
    refine vp_take rfl rfl rfl hS (fun w st => y_sub rfl rfl (by omega : _ = (i : Int)) (by omega) (by omega)) ?_
    refine vp_take rfl rfl rfl hS (fun w st => y_bld (.agg #[_, _, _, _]) [(0, _), (1, _), (3, _)] rfl (fun w => by simp [Instr.build, go_sem] <;> repeat' constructor)) ?_
    refine vp_do rfl (e_sts (vs := [_, _, _, _]) st 0 rfl rfl rfl rfl rfl sizeOf118 rfl rfl (by (right; assumption)) ?_)
    intro w st; dsimp only [setNth, wr] at st
    refine vp_next st.dr ?_; intro hS
    refine vp_end (vq_then (vk1 2 (vc_ret (vq_block_ret (vq_then_ret (vq_then_ret (vq_block_ret (vq_then_ret ?_))))))))
    refine vq_ret1 st (.inl rfl) results198 (by exact .cell 0 rfl rfl isAgg118 sizeOf118) ?_
    refine ⟨_, rfl, ?_⟩
    refine ⟨st.chg, ?_⟩
    rw [tokAt_sign hi hc hd]
    rw [show i + m - i = m by omega] at hc37
    have hr := st.res (i := 1) rfl
    rcases (show m = 2 ∨ m = 1 by omega) with rfl | rfl
    ·have h2' : isSign2 ((s.drop i).take 2) = true := by
      simp only [isSign, Bool.or_eq_true] at hc37
      rcases hc37 with h | h
      ·exact h
      ·have := isSign1_len h; simp at this; omega
     rw [if_pos h2']
     exact ⟨by rfl, by dsimp only; rw [isSign2_len h2']; exact hr⟩
    ·have h1' : isSign1 ((s.drop i).take 1) = true := by
      simp only [isSign, Bool.or_eq_true] at hc37
      rcases hc37 with h | h
      ·have := isSign2_len h; simp at this; omega
      ·exact h
     rw [if_neg (by rw [h2 (by omega)]; simp), if_pos h1']
     exact ⟨by rfl, by dsimp only; rw [isSign1_len h1']; exact hr⟩
   ·intro hc37
    try simp only [dn] at hc37
    refine vc_code_skip (vq_block (vq_then (vk3 0 2 3 (vc_region ?_))))
    refine ym ?_
    refine vy (y_sub rfl rfl (by omega : _ = ((m - 1 : Nat) : Int)) (by omega) (by omega)) ?_
    refine ya ?_
    refine vc_end ?_
    refine vq_again (m - 1)  ⟨rfl, rfl, rfl, trivial⟩ st ?_ ?_
    ·first
     | (exact ⟨by omega, fun _ => by
         rcases (show m = 2 ∨ m = 1 by omega) with rfl | rfl
         · simp only [isSign, Bool.or_eq_false_iff, show i + 2 - i = 2 by omega] at hc37; exact hc37.1
         · exact h2 (by omega), fun hlt => by
         obtain rfl : m = 1 := by omega
         simp only [isSign, Bool.or_eq_false_iff, show i + 1 - i = 1 by omega] at hc37; exact hc37.2⟩)
    ·omega
  ·intro hg20
   try simp only [dn] at hg20
   iterate 15 refine vp_skip rfl rfl rfl hS ?_
   refine vp_do rfl (e_skip rfl rfl (vp_next hS (fun hS => ?_)))
   refine vp_take rfl rfl rfl hS (fun w st => y_pickf rfl rfl) ?_
   refine vp_end (vq_then (vk4 0 2 3 37 ?_))
   refine vc_iff rfl ?_
   refine vc_code_skip (vq_block (vq_then (vk3 0 2 3 (vc_region ?_))))
   refine ym ?_
   refine vy (y_sub rfl rfl (by omega : _ = ((m - 1 : Nat) : Int)) (by omega) (by omega)) ?_
   refine ya ?_
   refine vc_end ?_
   refine vq_again (m - 1)  ⟨rfl, rfl, rfl, trivial⟩ st ?_ ?_
   ·first
    | (exact ⟨by omega, fun _ => by
        rcases (show m = 2 ∨ m = 1 by omega) with rfl | rfl
        · cases h : isSign2 ((s.drop i).take 2)
          · rfl
          · have hl := isSign2_len h; simp at hl; omega
        · exact h2 (by omega), fun hlt => by
        obtain rfl : m = 1 := by omega
        omega⟩)
   ·omega
 ·intro hc5
  try simp only [dn] at hc5
  refine vc_exit (vq_then_exit (vq_then_exit (vq_block_exit (vq_then (vk2 0 2 (vc_seq (vc_region ?_)))))))
  iterate 2 refine ym ?_
  refine ynk ?_
  refine yfz 1 underlying178 sizeOf3 ?_
  refine yl st 1 isAgg3 ?_
  refine vc_e (e_call [_, _, _] rfl rfl call229 rfl (wrong_any b s _ _ _ _ _ _ (st.res (i := 1) rfl)) ?_)
  rintro _ w ⟨rfl, cw, hw⟩
  replace st := st.turn (i := 1) (r' := .blk b _) rfl rfl rfl cw (.inl (by simp)) hw
  dsimp only [setNth] at st
  refine vc_e (e_sts (vs := [_, _, _, _]) st 0 rfl rfl rfl rfl rfl sizeOf118 rfl rfl (by (right; assumption)) ?_)
  intro w st; dsimp only [setNth, wr] at st
  refine vc_end (vq_then (vk1 2 (vc_ret ?_)))
  refine vq_ret1 st (.inl rfl) results198 (by exact .cell 0 rfl rfl isAgg118 sizeOf118) ?_
  refine ⟨_, rfl, ?_⟩
  refine ⟨st.chg, ?_⟩
  rw [tokAt_sign hi hc hd, if_neg (by rw [h2 (by omega)]; simp), if_neg (by rw [h1 (by omega)]; simp)]
  exact ⟨rfl, _, st.res (i := 1) rfl⟩

end Go.Proofs.YtnmhlpnapgojjaaGreatDoor.Pq

