/- A part of the proof: contracts of functions and plain laws; each theorem says its own conditions. -/
import Derived.Test.YtnmhlpnapgojjaaGreatDoorPrettyOneK1
import Derived.Test.YtnmhlpnapgojjaaGreatDoorPrettyOneK13
import Derived.Test.YtnmhlpnapgojjaaGreatDoorPrettyOneK10
import Derived.Test.YtnmhlpnapgojjaaGreatDoorPrettyOneK12
import Derived.Test.YtnmhlpnapgojjaaGreatDoorPrettyOneK0
import Derived.Test.YtnmhlpnapgojjaaGreatDoorPrettyOneK9
import Derived.Test.YtnmhlpnapgojjaaGreatDoorPrettyOneK2
import Derived.Test.YtnmhlpnapgojjaaGreatDoorPrettyOneK8
set_option linter.unusedVariables false
set_option linter.unusedSimpArgs false
namespace Go.Proofs.YtnmhlpnapgojjaaGreatDoor.Pq
open Go.RowKit Sx LexS _root_.Go.Proofs.Tryz
abbrev tok4 (k : Int) (t : List UInt8) (wd a : Int) : List Value := [.int .u8 k, str t, .int .i64 wd, .int .i64 a]
/-- the same, its parts named -/
def RdFlat (s : List UInt8) (i : Nat) (fa fr : Int) (res : TokR) (k : Int) (t : List UInt8) (wd a j fa' fr' : Int) : Prop := match res with
 | .tok x => k = x.kind ∧ t = x.text ∧ wd = x.word ∧ a = x.at_ ∧ j = ((i + x.text.length : Nat) : Int) ∧ fa' = fa ∧ fr' = fr
 | .bad rule p => k = 0 ∧ t = [] ∧ wd = 0 ∧ a = 0 ∧ fa' = p ∧ fr' = rule
theorem rd_flat {b : Nat} {s : List UInt8} {i : Nat} {fa fr : Int} {res : TokR} {v : Value} {w' : World} (h : RdPost b s i fa fr res v w') :
    ∃ k t wd a j fa' fr', v = .agg (tok4 k t wd a).toArray ∧ w'.heap[b]? = some (scn s j fa' fr') ∧ RdFlat s i fa fr res k t wd a j fa' fr' := by
 cases res with
 | tok x => exact ⟨_, _, _, _, _, _, _, h.1, h.2, rfl, rfl, rfl, rfl, rfl, rfl, rfl⟩
 | bad rule p => obtain ⟨h1, j, h2⟩ := h; exact ⟨0, [], 0, 0, j, _, _, h1, h2, rfl, rfl, rfl, rfl, rfl, rfl⟩
theorem bad_rule {r : List UInt8} {i rule p : Nat} (h : tokAt r i = .bad rule p) : 1 ≤ rule ∧ rule ≤ 4 := by
 simp only [tokAt] at h
 (repeat' split at h) <;> first | (simp at h; done) | (simp at h; omega)
/-- what 'next' leaves: the token, or none -/
def NxPost (b : Nat) (s : List UInt8) (i : Nat) (v : Value) (w' : World) : Prop :=
 if s.length ≤ i + skip (s.drop i) then v = .tuple #[.agg zeroL.toArray, .bool false] ∧ ∃ j : Int, w'.heap[b]? = some (scn s j 0 0)
 else match tokAt (s.drop (i + skip (s.drop i))) (i + skip (s.drop i)) with
  | .tok x => v = .tuple #[.agg (tokL x).toArray, .bool true] ∧ w'.heap[b]? = some (scn s ((i + skip (s.drop i) + x.text.length : Nat) : Int) 0 0)
  | .bad rule p => v = .tuple #[.agg zeroL.toArray, .bool false] ∧ ∃ j : Int, w'.heap[b]? = some (scn s j (p : Int) (rule : Int))

set_option maxHeartbeats 1000000 in
theorem next_any (b : Nat) (s : List UInt8) (i : Nat) (w : World) (hb : w.heap[b]? = some (scn s i 0 0)) (hi : i ≤ s.length) (hs : s.length ≤ 3000000) :
    Ret Tryz.prog 142 [.pointer (some ⟨b, 0, none⟩)] w fun v w' => Chg [b] w w' ∧ NxPost b s i v w' := by
 refine ret_of [_] func142 rfl ntmps142 rfl ?_
 have st := St.init w [b]
 have hle := skip_le (s.drop i)
 simp only [List.length_drop] at hle
 replace st := St.of1 [b] hb
 refine vc_seq (vc_region ?_)
 refine vc_e (e_al (l := [_, _, _, _]) st rfl rfl zeroValue118 rfl ?_)
 intro b2 w hb2 st
 refine ya ?_
 refine vc_end (vq_then (vk2 0 2 (vc_seq (vc_region ?_))))
 refine ym ?_
 refine vc_e (e_call [_] rfl rfl call197 rfl (over_any b s i _ _ _ (st.res (i := 1) rfl) hi hs) ?_)
 rintro _ w ⟨rfl, cw, hw⟩
 replace st := st.turn (i := 1) (r' := .blk b _) rfl rfl rfl cw (.inl (by simp)) hw
 dsimp only [setNth] at st
 have hi1 : i + skip (List.drop i s) ≤ s.length := by omega
 refine vc_end (vq_then (vk2 0 2 (vc_seq (vc_seq ?_))))
 refine vc_draw Tryz.mixed [(0, true), (1, true), (2, true), (3, true), (4, true), (5, true), (6, true), (7, true), (8, true), (9, true)] (fun w => St _ _ _ w) st (by kernel_rfl) (by repeat (first | exact okQ_body | refine okQ_then ?_ | refine okQ_block ?_)) rfl (by kernel_rfl) ?_
 intro w cd; replace st := st.call0 cd; clear cd
 have hS := st
 refine pm hS ?_
 refine pnk hS ?_
 refine pfz hS 1 underlying178 sizeOf3 ?_
 refine pld hS 1 isAgg3 ?_
 refine pm hS ?_
 refine pnk hS ?_
 refine pf0 hS underlying178 sizeOf9 ?_
 refine pld hS 1 isAgg9 ?_
 refine vp_take rfl rfl rfl hS (fun w st => y_lens rfl underlying9) ?_
 refine vp_take rfl rfl rfl hS (fun w st => y_geq rfl rfl) ?_
 refine vp_end (vq_then (vk3 0 2 19 ?_))
 refine vc_ifs rfl ?_ ?_
 ·intro hc19
  try simp only [dn] at hc19
  refine vc_seq (vc_region ?_)
  refine vy (y_bld (.agg #[_, _, _, _]) [] rfl (fun w => by simp [Instr.build, go_sem] <;> repeat' constructor)) ?_
  refine vc_e (e_sts (vs := [_, _, _, _]) st 0 rfl rfl rfl rfl rfl sizeOf118 rfl rfl (by (right; assumption)) ?_)
  intro w st; dsimp only [setNth, wr] at st
  refine ya ?_
  refine vc_end (vq_then (vk2 2 3 (vc_ret (vq_then_ret ?_))))
  refine vq_ret2 st (.inl rfl) results142 (by exact .cell 0 rfl rfl isAgg118 sizeOf118) (.tmp rfl) ?_
  refine ⟨_, rfl, ?_⟩
  refine ⟨st.chg, ?_⟩
  unfold NxPost
  rw [if_pos (by omega)]
  exact ⟨rfl, _, st.res (i := 1) rfl⟩
 ·intro hc19
  try simp only [dn] at hc19
  refine vc_code_skip (vq_then (vk2 0 2 (vc_seq (vc_region ?_))))
  refine ym ?_
  refine vy (y_mf [_] [] rfl rfl) ?_
  refine ym ?_
  refine vy (y_mf [_] [] rfl rfl) ?_
  refine ym ?_
  refine vy (y_mf [_] [] rfl rfl) ?_
  refine vy (y_bld (.agg #[_, _, _]) [(0, _), (1, _), (2, _)] rfl (fun w => by simp [Instr.build, go_sem] <;> repeat' constructor)) ?_
  refine vc_e (e_al (l := [_, _, _]) st rfl rfl zeroValue219 rfl ?_)
  intro b4 w hb4 st
  refine vc_e (e_sts (vs := [_, _, _]) st 0 rfl rfl rfl rfl rfl sizeOf219 rfl rfl (by (right; assumption)) ?_)
  intro w st; dsimp only [setNth, wr] at st
  refine vc_end (vq_then (vk3 0 2 4 (vc_seq (vc_region ?_))))
  refine ya ?_
  refine vc_end (vq_then (vk4 0 2 4 5 (vc_seq (vc_seq ?_))))
  refine vc_draw Tryz.mixed [(0, true), (1, true), (2, true), (3, true), (4, true), (5, true), (6, true), (7, true), (8, true), (9, true)] (fun w => St _ _ _ w) st (by kernel_rfl) (by repeat (first | exact okQ_body | refine okQ_then ?_ | refine okQ_block ?_)) rfl (by kernel_rfl) ?_
  intro w cd; replace st := st.call0 cd; clear cd
  have hS := st
  refine pm hS ?_
  refine pnk hS ?_
  refine pf0 hS underlying178 sizeOf9 ?_
  refine pld hS 2 isAgg9 ?_
  refine pm hS ?_
  refine pnk hS ?_
  refine pfz hS 1 underlying178 sizeOf3 ?_
  refine pld hS 2 isAgg3 ?_
  refine vp_take rfl rfl rfl hS (fun w st => y_ixs (k := _) rfl rfl underlying9 rfl (by omega)) ?_
  refine vp_take rfl rfl rfl hS (fun w st => y_as rfl) ?_
  refine vp_end (vq_then (vk5 0 2 4 5 6 (vc_block (vc_seq (vc_region ?_)))))
  refine ym ?_
  refine vc_e (e_call [_] rfl rfl call115 rfl (letter_any _ _) ?_)
  rintro _ _ ⟨rfl, rfl⟩
  refine ya ?_
  refine vc_end (vq_then (vk6 0 2 4 5 6 37 ?_))
  refine vc_ifs rfl ?_ ?_
  ·intro hc37
   try simp only [dn] at hc37
   refine vc_region ?_
   refine ya ?_
   refine vc_end (vq_block (vq_then (vk4 0 2 4 5 (vc_seq (vc_region ?_)))))
   refine ym ?_
   refine vy (y_iaa (k := 1) rfl rfl underlying219 sizeOf141 rfl (by omega)) ?_
   refine yl st 0 isAgg141 ?_
   refine vc_e (e_callv [] rfl rfl rfl call199 rfl (word_rd b s _ _ _ _ (st.res (i := 2) rfl) (by omega) hs (by assumption)) ?_)
   rintro _ w ⟨cw, hp⟩
   obtain ⟨k, t, wd, a, j, fa', fr', rfl, hw, hf⟩ := rd_flat hp
   replace st := st.turn (i := 2) (r' := .blk b _) rfl rfl rfl cw (.inl (by simp)) hw
   dsimp only [setNth] at st
   refine vc_e (e_al (l := [_, _, _, _]) st rfl rfl zeroValue118 rfl ?_)
   intro b7 w hb7 st
   refine vc_e (e_sts (vs := [_, _, _, _]) st 0 rfl rfl rfl rfl rfl sizeOf118 rfl rfl (by (right; assumption)) ?_)
   intro w st; dsimp only [setNth, wr] at st
   refine vc_end (vq_then (vk3 0 2 7 (vc_seq ?_)))
   refine vc_draw Tryz.mixed [(0, true), (1, true), (2, true), (3, true), (4, true), (5, true), (6, true), (7, false), (8, true)] (fun w => St _ _ [.blk b7 (.cells (tok4 k t wd a).toArray 118 (0, 0)), .blk b (scn s j fa' fr')] w) st.dr (by kernel_rfl) (by repeat (first | exact okQ_body | refine okQ_then ?_ | refine okQ_block ?_)) rfl (by kernel_rfl) ?_
   intro w cd; replace st := st.call0 cd; clear cd
   have hS : St _ _ [.blk b7 (.cells (tok4 k t wd a).toArray 118 (0, 0)), .blk b (scn s j fa' fr')] w := st.dr
   refine vp_take rfl rfl rfl hS (fun w st => y_lda (vs := [_, _, _, _]) st 0 rfl isAgg118 sizeOf118 rfl rfl) ?_
   refine pm hS ?_
   refine pnk hS ?_
   refine pfz hS 2 underlying178 sizeOf29 ?_
   refine vp_take rfl rfl rfl hS (fun w st => y_fa (k := 1) rfl underlying29 rfl rfl sizeOf3 rfl) ?_
   refine pld hS 1 isAgg3 ?_
   refine vp_take rfl rfl rfl hS (fun w st => y_eqi rfl rfl) ?_
   refine vp_do rfl (e_sts (vs := [_, _, _, _]) st 2 rfl rfl rfl rfl rfl sizeOf118 rfl rfl (by (right; assumption)) ?_)
   intro w st; dsimp only [setNth, wr] at st
   refine vp_next st.dr ?_; intro hS
   refine vp_take rfl rfl rfl hS (fun w st => y_as rfl) ?_
   refine vp_end (vq_then (vk2 2 3 (vc_ret ?_)))
   refine vq_ret2 st (.inl rfl) results142 (by exact .cell 2 rfl rfl isAgg118 sizeOf118) (.tmp rfl) ?_
   refine ⟨_, rfl, ?_⟩
   refine ⟨st.chg, ?_⟩
   unfold NxPost
   rw [if_neg (by omega)]
   have hr := st.res (i := 3) rfl
   cases hR : tokAt (List.drop (i + skip (List.drop i s)) s) (i + skip (List.drop i s)) with
   | tok x => rw [hR] at hf; obtain ⟨rfl, rfl, rfl, rfl, rfl, rfl, rfl⟩ := hf; exact ⟨rfl, hr⟩
   | bad rule p =>
    have hb' := bad_rule hR
    rw [hR] at hf; obtain ⟨rfl, rfl, rfl, rfl, rfl, rfl⟩ := hf
    refine ⟨?_, _, hr⟩
    rw [show (decide ((rule : Int) = 0)) = false from by simp; omega]
  ·intro hc37
   try simp only [dn] at hc37
   refine vc_seq (vc_region ?_)
   refine ym ?_
   refine vc_e (e_call [_] rfl rfl call113 rfl (digit_any _ _) ?_)
   rintro _ _ ⟨rfl, rfl⟩
   refine ya ?_
   refine vc_end (vq_then (vk5 0 2 4 5 40 ?_))
   refine vc_ifs rfl ?_ ?_
   ·intro hc40
    try simp only [dn] at hc40
    refine vc_region ?_
    refine ya ?_
    refine vc_end (vq_block (vq_then (vk4 0 2 4 5 (vc_seq (vc_region ?_)))))
    refine ym ?_
    refine vy (y_iaa (k := 2) rfl rfl underlying219 sizeOf141 rfl (by omega)) ?_
    refine yl st 0 isAgg141 ?_
    refine vc_e (e_callv [] rfl rfl rfl call200 rfl (number_rd b s _ _ _ _ (st.res (i := 2) rfl) (by omega) hs (by assumption) (by assumption)) ?_)
    rintro _ w ⟨cw, hp⟩
    obtain ⟨k, t, wd, a, j, fa', fr', rfl, hw, hf⟩ := rd_flat hp
    replace st := st.turn (i := 2) (r' := .blk b _) rfl rfl rfl cw (.inl (by simp)) hw
    dsimp only [setNth] at st
    refine vc_e (e_al (l := [_, _, _, _]) st rfl rfl zeroValue118 rfl ?_)
    intro b7 w hb7 st
    refine vc_e (e_sts (vs := [_, _, _, _]) st 0 rfl rfl rfl rfl rfl sizeOf118 rfl rfl (by (right; assumption)) ?_)
    intro w st; dsimp only [setNth, wr] at st
    refine vc_end (vq_then (vk3 0 2 7 (vc_seq ?_)))
    refine vc_draw Tryz.mixed [(0, true), (1, true), (2, true), (3, true), (4, true), (5, true), (6, true), (7, false), (8, true)] (fun w => St _ _ [.blk b7 (.cells (tok4 k t wd a).toArray 118 (0, 0)), .blk b (scn s j fa' fr')] w) st.dr (by kernel_rfl) (by repeat (first | exact okQ_body | refine okQ_then ?_ | refine okQ_block ?_)) rfl (by kernel_rfl) ?_
    intro w cd; replace st := st.call0 cd; clear cd
    have hS : St _ _ [.blk b7 (.cells (tok4 k t wd a).toArray 118 (0, 0)), .blk b (scn s j fa' fr')] w := st.dr
    refine vp_take rfl rfl rfl hS (fun w st => y_lda (vs := [_, _, _, _]) st 0 rfl isAgg118 sizeOf118 rfl rfl) ?_
    refine pm hS ?_
    refine pnk hS ?_
    refine pfz hS 2 underlying178 sizeOf29 ?_
    refine vp_take rfl rfl rfl hS (fun w st => y_fa (k := 1) rfl underlying29 rfl rfl sizeOf3 rfl) ?_
    refine pld hS 1 isAgg3 ?_
    refine vp_take rfl rfl rfl hS (fun w st => y_eqi rfl rfl) ?_
    refine vp_do rfl (e_sts (vs := [_, _, _, _]) st 2 rfl rfl rfl rfl rfl sizeOf118 rfl rfl (by (right; assumption)) ?_)
    intro w st; dsimp only [setNth, wr] at st
    refine vp_next st.dr ?_; intro hS
    refine vp_take rfl rfl rfl hS (fun w st => y_as rfl) ?_
    refine vp_end (vq_then (vk2 2 3 (vc_ret ?_)))
    refine vq_ret2 st (.inl rfl) results142 (by exact .cell 2 rfl rfl isAgg118 sizeOf118) (.tmp rfl) ?_
    refine ⟨_, rfl, ?_⟩
    refine ⟨st.chg, ?_⟩
    unfold NxPost
    rw [if_neg (by omega)]
    have hr := st.res (i := 3) rfl
    cases hR : tokAt (List.drop (i + skip (List.drop i s)) s) (i + skip (List.drop i s)) with
    | tok x => rw [hR] at hf; obtain ⟨rfl, rfl, rfl, rfl, rfl, rfl, rfl⟩ := hf; exact ⟨rfl, hr⟩
    | bad rule p =>
     have hb' := bad_rule hR
     rw [hR] at hf; obtain ⟨rfl, rfl, rfl, rfl, rfl, rfl⟩ := hf
     refine ⟨?_, _, hr⟩
     rw [show (decide ((rule : Int) = 0)) = false from by simp; omega]
   ·intro hc40
    try simp only [dn] at hc40
    refine vc_code_skip (vq_block (vq_then (vk4 0 2 4 5 (vc_seq (vc_region ?_)))))
    refine ym ?_
    refine vy (y_iaa (k := 0) rfl rfl underlying219 sizeOf141 rfl (by omega)) ?_
    refine yl st 0 isAgg141 ?_
    refine vc_e (e_callv [] rfl rfl rfl call198 rfl (sign_rd b s _ _ _ _ (st.res (i := 2) rfl) (by omega) hs (by assumption) (by assumption)) ?_)
    rintro _ w ⟨cw, hp⟩
    obtain ⟨k, t, wd, a, j, fa', fr', rfl, hw, hf⟩ := rd_flat hp
    replace st := st.turn (i := 2) (r' := .blk b _) rfl rfl rfl cw (.inl (by simp)) hw
    dsimp only [setNth] at st
    refine vc_e (e_al (l := [_, _, _, _]) st rfl rfl zeroValue118 rfl ?_)
    intro b7 w hb7 st
    refine vc_e (e_sts (vs := [_, _, _, _]) st 0 rfl rfl rfl rfl rfl sizeOf118 rfl rfl (by (right; assumption)) ?_)
    intro w st; dsimp only [setNth, wr] at st
    refine vc_end (vq_then (vk3 0 2 7 (vc_seq ?_)))
    refine vc_draw Tryz.mixed [(0, true), (1, true), (2, true), (3, true), (4, true), (5, true), (6, true), (7, false), (8, true)] (fun w => St _ _ [.blk b7 (.cells (tok4 k t wd a).toArray 118 (0, 0)), .blk b (scn s j fa' fr')] w) st.dr (by kernel_rfl) (by repeat (first | exact okQ_body | refine okQ_then ?_ | refine okQ_block ?_)) rfl (by kernel_rfl) ?_
    intro w cd; replace st := st.call0 cd; clear cd
    have hS : St _ _ [.blk b7 (.cells (tok4 k t wd a).toArray 118 (0, 0)), .blk b (scn s j fa' fr')] w := st.dr
    refine vp_take rfl rfl rfl hS (fun w st => y_lda (vs := [_, _, _, _]) st 0 rfl isAgg118 sizeOf118 rfl rfl) ?_
    refine pm hS ?_
    refine pnk hS ?_
    refine pfz hS 2 underlying178 sizeOf29 ?_
    refine vp_take rfl rfl rfl hS (fun w st => y_fa (k := 1) rfl underlying29 rfl rfl sizeOf3 rfl) ?_
    refine pld hS 1 isAgg3 ?_
    refine vp_take rfl rfl rfl hS (fun w st => y_eqi rfl rfl) ?_
    refine vp_do rfl (e_sts (vs := [_, _, _, _]) st 2 rfl rfl rfl rfl rfl sizeOf118 rfl rfl (by (right; assumption)) ?_)
    intro w st; dsimp only [setNth, wr] at st
    refine vp_next st.dr ?_; intro hS
    refine vp_take rfl rfl rfl hS (fun w st => y_as rfl) ?_
    refine vp_end (vq_then (vk2 2 3 (vc_ret ?_)))
    refine vq_ret2 st (.inl rfl) results142 (by exact .cell 2 rfl rfl isAgg118 sizeOf118) (.tmp rfl) ?_
    refine ⟨_, rfl, ?_⟩
    refine ⟨st.chg, ?_⟩
    unfold NxPost
    rw [if_neg (by omega)]
    have hr := st.res (i := 3) rfl
    cases hR : tokAt (List.drop (i + skip (List.drop i s)) s) (i + skip (List.drop i s)) with
    | tok x => rw [hR] at hf; obtain ⟨rfl, rfl, rfl, rfl, rfl, rfl, rfl⟩ := hf; exact ⟨rfl, hr⟩
    | bad rule p =>
     have hb' := bad_rule hR
     rw [hR] at hf; obtain ⟨rfl, rfl, rfl, rfl, rfl, rfl⟩ := hf
     refine ⟨?_, _, hr⟩
     rw [show (decide ((rule : Int) = 0)) = false from by simp; omega]

end Go.Proofs.YtnmhlpnapgojjaaGreatDoor.Pq


namespace Go.Proofs.YtnmhlpnapgojjaaGreatDoor.Pq
open Go.RowKit Sx LexS _root_.Go.Proofs.Tryz
theorem Tryz.info118 : Tryz.prog.info? 118 = some Tryz.t118 := by kernel_rfl
def toksL (l : List Tok) : List Value := l.flatMap tokL
theorem toksL_snoc (l : List Tok) (t : Tok) : toksL (l ++ [t]) = toksL l ++ tokL t := by simp [toksL]
def NxRel (s : List UInt8) (i : Nat) (k : Int) (t : List UInt8) (wd a : Int) (ok : Bool) (j fa fr : Int) : Prop :=
 (ok = true ∧ ∃ x : Tok, i + skip (s.drop i) < s.length ∧ tokAt (s.drop (i + skip (s.drop i))) (i + skip (s.drop i)) = .tok x ∧ k = x.kind ∧ t = x.text ∧ wd = x.word ∧ a = x.at_ ∧ j = ((i + skip (s.drop i) + x.text.length : Nat) : Int) ∧ fa = 0 ∧ fr = 0) ∨
 (ok = false ∧ s.length ≤ i + skip (s.drop i) ∧ fa = 0 ∧ fr = 0) ∨
 (ok = false ∧ ∃ rule p : Nat, i + skip (s.drop i) < s.length ∧ tokAt (s.drop (i + skip (s.drop i))) (i + skip (s.drop i)) = .bad rule p ∧ fa = p ∧ fr = rule)
theorem nx_flat {b : Nat} {s : List UInt8} {i : Nat} {v : Value} {w' : World} (h : NxPost b s i v w') :
    ∃ k t wd a ok j fa fr, v = .tuple [.agg (tok4 k t wd a).toArray, .bool ok].toArray ∧ w'.heap[b]? = some (scn s j fa fr) ∧ NxRel s i k t wd a ok j fa fr := by
 unfold NxPost at h
 split at h
 ·rename_i hle
  obtain ⟨h1, j, h2⟩ := h
  exact ⟨0, [], 0, 0, false, j, 0, 0, h1, h2, .inr (.inl ⟨rfl, hle, rfl, rfl⟩)⟩
 ·rename_i hlt
  split at h
  ·rename_i x hx
   obtain ⟨h1, h2⟩ := h
   exact ⟨_, _, _, _, true, _, 0, 0, h1, h2, .inl ⟨rfl, x, by omega, hx, rfl, rfl, rfl, rfl, rfl, rfl, rfl⟩⟩
  ·rename_i rule p hx
   obtain ⟨h1, j, h2⟩ := h
   exact ⟨0, [], 0, 0, false, j, _, _, h1, h2, .inr (.inr ⟨rfl, rule, p, by omega, hx, rfl, rfl⟩)⟩
/-- what 'Scan' hands back -/
def ScanPost (s : List UInt8) (w : World) (v : Value) (w' : World) : Prop :=
 Chg [] w w' ∧ ∃ oa cap, v = .tuple [.slice oa (scanRes s).1.length cap, .int .i64 ((scanRes s).2.1 : Int), .agg [.int .i64 ((scanRes s).2.2.1 : Int), .int .i64 ((scanRes s).2.2.2 : Int)].toArray].toArray ∧
  w'.ownsRow w.heap.size 118 4 (.slice oa (scanRes s).1.length cap) (scanRes s).1.length (toksL (scanRes s).1)
set_option maxHeartbeats 1000000 in
theorem scan_any (s : List UInt8) (w : World) : Ret Tryz.prog 75 [str s] w (ScanPost s w) := by
 refine ret_of [_] func75 rfl ntmps75 rfl ?_
 have st := St.init w []
 refine vc_seq (vc_region ?_)
 iterate 2 refine ya ?_
 refine vc_e (e_al (l := [_, _]) st rfl rfl zeroValue29 rfl ?_)
 intro b4 w hb4 st
 refine vc_end (vq_then (vk2 0 4 (vc_seq (vc_seq (vc_region ?_)))))
 refine ym ?_
 refine vy (y_lens rfl underlying9) ?_
 refine vy (y_gtr rfl rfl) ?_
 refine vc_end (vq_then (vk3 0 4 11 ?_))
 refine vc_ifs rfl ?_ ?_
 ·intro hc11
  try simp only [dn] at hc11
  refine vc_seq (vc_region ?_)
  refine vy (y_bld (.agg #[_, _]) [] rfl (fun w => by simp [Instr.build, go_sem] <;> repeat' constructor)) ?_
  iterate 2 refine ya ?_
  refine vc_e (e_sts (vs := [_, _]) st 0 rfl rfl rfl rfl rfl sizeOf29 rfl rfl (by (right; assumption)) ?_)
  intro w st; dsimp only [setNth, wr] at st
  refine vc_end (vq_then (vk3 2 3 4 (vc_ret (vq_then_ret ?_))))
  refine vq_ret3 st (.inl rfl) results75 (.tmp rfl) (.tmp rfl) (by exact .cell 0 rfl rfl isAgg29 sizeOf29) ?_
  refine ⟨_, rfl, ?_⟩
  have e : scanRes s = ([], 4, 0, 0) := by unfold scanRes; rw [if_pos (by omega)]
  refine ⟨st.chg, none, 0, ?_, ?_⟩
  ·rw [e]; rfl
  ·rw [e]; exact World.ownsRow_nil _ _ _ _
 ·intro hc11
  try simp only [dn] at hc11
  replace st := st.ownNil 118 4
  refine vc_code_skip (vq_then (vk2 0 4 (vc_seq (vc_region ?_))))
  refine ym ?_
  refine vy (y_bld (.agg #[_, _, _, _]) [(0, _)] rfl (fun w => by simp [Instr.build, go_sem] <;> repeat' constructor)) ?_
  refine vc_e (e_bx (l := [_, _, _, _]) st rfl rfl rfl rfl ?_)
  intro b15 w hb15 st
  refine ya ?_
  refine vc_end (vq_then (vk2 4 5 (vc_seq (vc_region ?_))))
  refine ya ?_
  refine vc_end (vq_then (vk3 4 5 6 (vc_seq (vc_block ?_))))
  refine vc_loop (w0 := _) (M := _) (fun (x : List Tok × Nat × Option Addr × Nat) => [(4, .pointer (some ⟨b4, 0, none⟩)), (5, .pointer (some ⟨b15, 0, none⟩)), (6, .slice x.2.2.1 x.1.length x.2.2.2)]) (fun x => [.blk b15 (scn s x.2.1 0 0), .own (.slice x.2.2.1 x.1.length x.2.2.2) 118 4 x.1.length (toksL x.1), .blk b4 (.cells [.int .i64 0, .int .i64 0].toArray 29 (0, 0))]) (fun x _ => x.2.1 ≤ s.length ∧ x.1.length ≤ x.2.1 ∧ (front s).1 = x.1 ++ (scanA (s.drop x.2.1) x.2.1).1 ∧ (front s).2 = (scanA (s.drop x.2.1) x.2.1).2) (fun x => s.length - x.2.1) ([], 0, none, 0) ⟨rfl, rfl, rfl, trivial⟩ st ⟨by simp, by simp, by simp [front_eq], by simp [front_eq]⟩ ?_
  rintro ⟨l, i, oa, cap⟩ w ⟨hi, hli, hf1, hf2⟩ st
  dsimp only at *
  refine vc_block (vc_seq (vc_region ?_))
  refine ym ?_
  refine vc_e (e_call [_] rfl rfl call142 rfl (next_any b15 s i _ (st.res (i := 0) rfl) hi (by omega)) ?_)
  rintro _ w ⟨cw, hp⟩
  obtain ⟨k, t, wd, a, ok, j, fa, fr, rfl, hw, hrel⟩ := nx_flat hp
  replace st := st.turn (i := 0) (r' := .blk b15 _) rfl rfl rfl cw (.inr (by assumption)) hw
  dsimp only [setNth] at st
  refine ym ?_
  iterate 2 refine vy (y_ext rfl rfl) ?_
  refine vc_e (e_al (l := [_, _, _, _]) st rfl rfl zeroValue118 rfl ?_)
  intro b7 w hb7 st
  refine vc_e (e_sts (vs := [_, _, _, _]) st 0 rfl rfl rfl rfl rfl sizeOf118 rfl rfl (by (right; assumption)) ?_)
  intro w st; dsimp only [setNth, wr] at st
  refine ya ?_
  refine vc_end (vq_then (vk5 4 5 6 7 8 (vc_seq (vc_seq (vc_region ?_)))))
  refine ym ?_
  refine vy (y_not rfl) ?_
  refine vc_end (vq_then (vk5 4 5 6 7 22 ?_))
  refine vc_ifs rfl ?_ ?_
  ·intro hc22
   try simp only [dn] at hc22
   refine vc_exit (vq_then_exit (vq_block_other rfl (vq_then_exit (vq_block_exit (vq_then (vk3 4 5 6 (vc_seq (vc_seq (vc_region ?_)))))))))
   refine ym ?_
   refine ynk ?_
   refine yfz 2 underlying178 sizeOf29 ?_
   refine vy (y_fa (k := 1) rfl underlying29 rfl rfl sizeOf3 rfl) ?_
   refine yl st 1 isAgg3 ?_
   refine vy (y_nei rfl rfl) ?_
   refine vc_end (vq_then (vk4 4 5 6 32 ?_))
   refine vc_ifs rfl ?_ ?_
   ·intro hc32
    try simp only [dn] at hc32
    refine vc_seq ?_
    refine vc_draw Tryz.mixed [(0, true), (1, true), (2, true), (3, true), (4, true), (5, true), (6, false)] (fun w => St _ _ [.blk b15 (scn s j fa fr)] w) st.dr (by kernel_rfl) (by repeat (first | exact okQ_body | refine okQ_then ?_ | refine okQ_block ?_)) rfl (by kernel_rfl) ?_
    intro w cd; replace st := st.call0 cd; clear cd
    have hS : St _ _ [.blk b15 (scn s j fa fr)] w := st.dr
    refine pm hS ?_
    refine pnk hS ?_
    refine pfz hS 2 underlying178 sizeOf29 ?_
    refine vp_take rfl rfl rfl hS (fun w st => y_lda (vs := [_, _]) st 0 rfl isAgg29 sizeOf29 rfl rfl) ?_
    iterate 2 refine vp_take rfl rfl rfl hS (fun w st => y_as rfl) ?_
    refine vp_do rfl (e_sts (vs := [_, _]) st 3 rfl rfl rfl rfl rfl sizeOf29 rfl rfl (by (right; assumption)) ?_)
    intro w st; dsimp only [setNth, wr] at st
    refine vp_next st.dr ?_; intro hS
    refine vp_end (vq_then (vk3 2 3 4 (vc_ret (vq_then_ret ?_))))
    refine vq_ret3 st (.inl rfl) results75 (.tmp rfl) (.tmp rfl) (by exact .cell 3 rfl rfl isAgg29 sizeOf29) ?_
    refine ⟨_, rfl, ?_⟩
    rcases hrel with ⟨h, _⟩ | ⟨_, _, _, h⟩ | ⟨_, rule, p, hlt, hx, rfl, rfl⟩
    ·simp [h] at hc22
    ·exact absurd h hc32
    ·have hsc := scanA_bad (r := s.drop i) (i := i) (by simp; omega) (by rw [List.drop_drop]; exact hx)
     have e : scanRes s = ([], 20, p, rule) := by unfold scanRes; rw [if_neg (by omega), hf2, hsc]
     refine ⟨st.chg, none, 0, ?_, ?_⟩
     ·rw [e]; rfl
     ·rw [e]; exact World.ownsRow_nil _ _ _ _
   ·intro hc32
    try simp only [dn] at hc32
    refine vc_code_skip (vq_then (vk2 4 6 (vc_seq (vc_region ?_))))
    refine ym ?_
    refine vy (y_bld (.agg #[_, _]) [] rfl (fun w => by simp [Instr.build, go_sem] <;> repeat' constructor)) ?_
    iterate 2 refine ya ?_
    refine vc_e (e_sts (vs := [_, _]) st 3 rfl rfl rfl rfl rfl sizeOf29 rfl rfl (by (right; assumption)) ?_)
    intro w st; dsimp only [setNth, wr] at st
    refine vc_end (vq_then (vk3 2 3 4 (vc_ret ?_)))
    refine vq_ret3 st (.inl rfl) results75 (.tmp rfl) (.tmp rfl) (by exact .cell 3 rfl rfl isAgg29 sizeOf29) ?_
    refine ⟨_, rfl, ?_⟩
    rcases hrel with ⟨h, _⟩ | ⟨_, hle, _, h⟩ | ⟨_, rule, p, hlt, hx, rfl, rfl⟩
    ·simp [h] at hc22
    ·have hsc := scanA_end (r := s.drop i) (i := i) (by simp; omega)
     have e : scanRes s = (l, 0, 0, 0) := by unfold scanRes; rw [if_neg (by omega), hf2, hsc, hf1, hsc]; simp
     refine ⟨st.chg, oa, cap, ?_, ?_⟩
     ·rw [e]; rfl
     ·rw [e]; exact st.res (i := 2) rfl
    ·have := bad_rule hx; omega
  ·intro hc22
   try simp only [dn] at hc22
   refine vc_code_skip (vq_then (vk4 4 5 6 7 (vc_region ?_)))
   refine ym ?_
   refine yla st 0 [_, _, _, _] isAgg118 sizeOf118 ?_
   refine vc_e (e_bs1 (l := [_, _, _, _]) st rfl rfl rfl rfl underlying89 sizeOf118 rfl rfl rfl zeroValue118 ?_)
   intro b25 w hb25 st
   refine vc_e (e_app (bytes := 40) st 3 0 rfl rfl rfl rfl rfl rfl underlying89 Tryz.info118 rfl rfl rfl rfl rfl (by simp) rfl rfl (by unfold maxLen; omega) (by omega) ?_)
   intro oa26 cap26 w st; dsimp only [setNth] at st
   refine ya ?_
   refine vc_end (vq_block ?_)
   rcases hrel with ⟨_, x, hlt, hx, rfl, rfl, rfl, rfl, rfl, rfl, rfl⟩ | ⟨h, _⟩ | ⟨h, _⟩
   ·have hx1 := tok_len hx
    have hxl : x.text.length ≤ s.length - (i + skip (List.drop i s)) := by have h := congrArg List.length hx1.2.1; simp at h; omega
    have hsc := scanA_tok (r := s.drop i) (i := i) (by simp; omega) (by rw [List.drop_drop]; exact hx)
    rw [List.drop_drop, ← Nat.add_assoc] at hsc
    refine vq_again (l ++ [x], i + skip (List.drop i s) + x.text.length, oa26, cap26) ⟨rfl, rfl, by simp only [List.length_append, List.length_cons, List.length_nil]; rfl, trivial⟩ ?_ ⟨by dsimp only; omega, by simp; omega, ?_, ?_⟩ (by dsimp only; omega)
    ·simp only [List.length_append, List.length_cons, List.length_nil, toksL_snoc]
     exact st.dr
    ·rw [hf1, hsc]; simp
    ·rw [hf2, hsc]
   ·simp [h] at hc22
   ·simp [h] at hc22

end Go.Proofs.YtnmhlpnapgojjaaGreatDoor.Pq


/- The tokens of a text: how many, and of what kinds. -/
namespace ParS
open Sx LexS
theorem numV_le {l : List UInt8} {n : Nat} (h : numV l = some n) : n ≤ 9223372036854775807 := by
  unfold numV at h
  split at h
  · cases h
  · rename_i hc
    cases h
    rw [not_or, not_or, not_or] at hc
    omega
theorem scan_ok : ∀ (T : List Tok) (r : List UInt8) (i : Nat) (f : Option (Nat × Nat)), scanA r i = (T, f) → T.length ≤ r.length ∧ ∀ t ∈ T, (t.kind = 1 → isName t.text = true) ∧ t.word ≤ 9223372036854775807 ∧ t.at_ ≤ i + r.length
  | [], r, i, f, h => ⟨Nat.zero_le _, by simp⟩
  | t :: T, r, i, f, h => by
    obtain ⟨h1, h2, h3⟩ := scan_inv h
    obtain ⟨h4, h5, h6⟩ := tok_len h2
    obtain ⟨h7, h8⟩ := scan_ok T _ _ _ h3
    rw [List.length_drop] at h7 h8
    have h9 : t.text.length ≤ r.length - skip r := by
      have := congrArg List.length h5
      rw [List.length_take, List.length_drop] at this
      omega
    refine ⟨by simp only [List.length_cons]; omega, fun x hx => ?_⟩
    rcases List.mem_cons.1 hx with rfl | hx
    · refine ⟨fun hk => ?_, ?_, by omega⟩
      · rcases tok_right h2 with h | h | h | h
        · exact h.2.1
        · omega
        · omega
        · omega
      · rcases tok_right h2 with h | h | h | h
        · omega
        · omega
        · exact numV_le h.2
        · omega
    · obtain ⟨a, b, c⟩ := h8 x hx
      exact ⟨a, b, by omega⟩
theorem front_ok {s : List UInt8} {T : List Tok} {f : Option (Nat × Nat)} (h : front s = (T, f)) : T.length ≤ s.length ∧ ∀ t ∈ T, (t.kind = 1 → isName t.text = true) ∧ t.word ≤ 9223372036854775807 ∧ t.at_ ≤ s.length := by
  rw [front_eq] at h
  have := scan_ok T s 0 f h
  simpa using this
end ParS


/- A function that defers a closure that recovers. -/
namespace Sx
open Go Go.RowKit
section
variable {P : Program} {n : Fr} {L : List Oper} {Q : Exit → Act → World → Prop} {kn : Kn} {w w0 : World} {M : List Nat} {hs : List Res} {rest : List Oper}
variable {d ty : Nat} {pos : String} {aft : Array Edge} {g : Option (Nat × Bool)}
variable {N : Act → World → Prop}
/-- where a callee's panic goes on, the frame known -/
abbrev PanK (n : Fr) (kn : Kn) (Q : Exit → Act → World → Prop) (v : Value) (w : World) : Prop := ∀ a : Act, K n kn a → Q (.panic (pch v)) a w
theorem e_callk {f : FuncId} {args : Array Operand} {tys : Array TypeId} (vals : List Value) {Φ Ψ : Value → World → Prop} (hw : gd L kn g = some true) (hd : okDst n (some d) = true)
    (hcall : ∀ (az : Array Value) w, (callFunc f az).run P w = .ok (.enter f az) w)
    (hv : args.toList.map (evO kn) = vals.map some)
    (c : RetP P f vals w Φ Ψ) (pan : ∀ v w', Ψ v w' → PanK n kn Q v w') (next : ∀ v w', Φ v w' → vN n N ((d, v) :: kn) w') :
    vS P n L Q ⟨some d, .call ⟨.value (.func f), args, tys⟩, ty, pos, aft, g⟩ N kn w := by
  intro a ha
  rw [if_pos (ha.gd hw)]
  refine .inl ?_
  unfold Oper.wp
  have hrun : (execOp a.eval ⟨some d, .call ⟨.value (.func f), args, tys⟩, ty, pos, aft, g⟩).run P w = .ok (.enter f vals.toArray) w := by
    have hargs := evs_map ha hv
    simp only [execOp, resolve, hargs, Act.eval]
    simp [Deferred.ofValue, invoke, hcall]
  rw [hrun]
  refine Calls.mono c ?_
  rintro e w' (⟨v, rfl, hv⟩ | ⟨v, rfl, hv⟩)
  · exact next v w' hv _ (ha.put hd v)
  · exact pan v w' hv a ha
/-- 'defer' of a closure -/
theorem e_deferV {x : Operand} {f : FuncId} {cap : List Value} {tys : Array TypeId} {m : Nat} {ds : List Deferred} (hn : n = (m, ds)) (hw : gd L kn g = some true)
    (hx : evO kn x = some (.func (.func f) #[] cap.toArray)) (next : vN (m, ⟨.fn (.func f) cap.toArray, #[]⟩ :: ds) N kn w) :
    vS P n L Q ⟨none, .defer ⟨.value x, #[], tys⟩, ty, pos, aft, g⟩ N kn w :=
  e_defer hn hw rfl (fun a ha => by
    simp only [execOp, resolve, ha.ev hx]
    simp [Deferred.ofValue]) next
theorem vqd_post {m : Nat} {fn : Func} {R : Ending → World → Prop} {e : Exit} {v : Value} (he : e = .ret ∨ e = .normal) (hr : ∀ a, K (m, []) kn a → (results fn a.tmps).run P w = .ok v w) (hR : R (.returned v) w) : vcQ (m, []) (bodyPostD P fn R) e kn w := by
  intro a ha
  have key : Leaves P fn a.tmps R a.defers .returning w := by rw [ha.defers]; exact ⟨v, hr a ha, hR⟩
  rcases he with rfl | rfl <;> exact key
theorem results3 {fn : Func} {r1 r2 r3 : ResultVar} {v1 v2 v3 : Value} {m : Nat} {ds : List Deferred} (st : St w0 M hs w) (hf : fn.results = #[r1, r2, r3]) (h1 : ResV P hs kn r1 v1) (h2 : ResV P hs kn r2 v2) (h3 : ResV P hs kn r3 v3) :
    ∀ a, K (m, ds) kn a → (results fn a.tmps).run P w = .ok (.tuple #[v1, v2, v3]) w := fun a ha => by
  simp [results_eq, hf, h1.run st ha, h2.run st ha, h3.run st ha]
theorem retd_of {m : Nat} {f : FuncId} {fn : Func} {c : Code} (vals : List Value) {Φ : Value → World → Prop} (hf : P.funcs[f]? = some fn) (hb : fn.body = some c) (hn : fn.ntmps = m) (hle : Nat.ble vals.length m = true)
    (h : vcC P (m, []) c (bodyPostD P fn fun e w' => ∃ v, e = .returned v ∧ Φ v w') (enumKn 0 vals) w) : Ret P f vals w Φ := vcd_enter hf hb hn hle h
/-- a panic's end, where a deferred closure recovers -/
theorem pan_leave {m : Nat} {fn : Func} {R : Ending → World → Prop} {f : FuncId} {cap : List Value} {v : Value} {Φ : World → Prop}
    (hcall : ∀ (az : Array Value) w, (callFunc f az).run P w = .ok (.enter f az) w)
    (h : DefCatch P f cap.toArray v w Φ) (hres : ∀ w', Φ w' → ∃ r, (∀ a, K (m, [⟨.fn (.func f) cap.toArray, #[]⟩]) kn a → (results fn a.tmps).run P w' = .ok r w') ∧ R (.returned r) w') :
    PanK (m, [⟨.fn (.func f) cap.toArray, #[]⟩]) kn (bodyPostD P fn R) v w := by
  intro a ha
  show Leaves P fn a.tmps R a.defers (.panicking (pch v)) w
  rw [ha.defers]
  refine leaves_cons (f := f) (args := cap.toArray) (by simp) (by simp [invoke, hcall]) (h.mono ?_)
  rintro e u' w' ⟨⟨x, rfl⟩, rfl, hΦ⟩
  obtain ⟨r, h1, h2⟩ := hres w' hΦ
  exact ⟨r, h1 a ha, h2⟩
theorem e_bxn (st : St w0 M hs w) {x : Operand} {T : Nat} {v : Value} {l : List Value} (hw : gd L kn g = some true) (hd : okDst n (some d) = true)
    (hx : evO kn x = some v) (hl : v.cells.toList = l)
    (next : ∀ b w', b = w.heap.size → w0.heap.size ≤ b → St w0 M (.blk b (.cells l.toArray T (0, 0)) :: hs) w' → vN n N ((d, .pointer (some ⟨b, 0, none⟩)) :: kn) w') : vS P n L Q (⟨some d, .box T x, ty, pos, aft, g⟩) N kn w :=
  e_new st (v := .pointer (some ⟨w.heap.size, 0, none⟩)) (l := l) (E := T) hw hd (fun a ha => by
    have : v.cells = l.toArray := by rw [← hl]
    simp only [execOp, ha.ev hx, Instr.box, ← this]
    rfl) (fun b w' e hb st' => by subst e; exact next _ w' rfl hb st')
theorem y_ta {x : Operand} {T U : Nat} {v : Value} {fs : Array Field} (hx : evO kn x = some (.iface T v)) (ht : P.underlying T = some (.struct fs)) : Y P n kn w ⟨some d, .typeAssert x U T false, ty, pos, aft, g⟩ v := fun a ha => by
  simp only [execOp, ha.ev hx]
  simp [Instr.typeAssert, run_underlying ht]
/-- a field that is a struct, of a struct that is a value -/
theorem y_fldA {T i off sz : Nat} {x : Operand} {cs vs : List Value} {fs : Array Field} {f : Field} (hx : evO kn x = some (.agg cs.toArray)) (ht : P.underlying T = some (.struct fs)) (hf : nth fs.toList i = some f) (ho : f.offset = off)
    (ha : ∀ w, (Go.isAgg f.type).run P w = .ok true w) (hs : ∀ w, (Go.sizeOf f.type).run P w = .ok sz w) (hv : takeN sz (dropN cs off) = some vs) : Y P n kn w ⟨some d, .field T x i, ty, pos, aft, g⟩ (.agg vs.toArray) := fun a hk => by
  subst ho
  rw [nth_eq] at hf
  have hf' : fs[i]? = some f := by simpa using hf
  simp only [execOp, hk.ev hx]
  simp [Instr.field, run_underlying ht, hf', asAgg, run_partA ha hs hv]
end
/-- a deferred closure's post does not look at the temporaries of a panic -/
theorem okQ_bodyS {P : Program} {fn : Func} {c0 : Frame} {cs cs' : List Frame} {R : Ending → FrameMode → World → Prop} : okQ (fun e a w => bodyPostS P fn c0 cs R e a cs' w) := fun c a a' w h hq => by
  obtain ⟨h1, h2⟩ := hq
  exact ⟨h ▸ h1, h2⟩
end Sx
namespace Sx
open Go Go.RowKit
theorem St.of3 {w : World} {b c e : Nat} {o p q : Obj} (M : List Nat) (h : w.heap[b]? = some o) (h' : w.heap[c]? = some p) (h'' : w.heap[e]? = some q) (h1 : b ≠ c) (h2 : b ≠ e) (h3 : c ≠ e) : St w M [.blk b o, .blk c p, .blk e q] w :=
  ⟨Chg.refl M w, List.pairwise_cons.2 ⟨by simp [Res.at?, h1, h2], List.pairwise_cons.2 ⟨by simp [Res.at?, h3], List.pairwise_singleton _ _⟩⟩, by simp [Res.holds, h, h', h'']⟩
/-- the frame of a deferred closure, as far as it is known -/
theorem K.of {m : Nat} {kn : Kn} {t : Array Value} (hs : t.size = m) (h : ∀ i v, find kn i = some v → t[i]? = some v) : K (m, []) kn { tmps := t, defers := [] } := ⟨rfl, hs, h⟩
theorem wp_of_vc {P : Program} {n : Fr} {c : Code} {Q : Exit → Act → World → Prop} {kn : Kn} {a : Act} {w : World} (ha : K n kn a) (h : vcC P n c Q kn w) : c.wp P Q a w := h a ha
/-- a region none of whose operations ends in a panic -/
def noPan (Q : Exit → Act → World → Prop) : Exit → Act → World → Prop := fun e a w => (match e with | .panic _ => False | _ => True) ∧ Q e a w
theorem okQ_noPan {Q : Exit → Act → World → Prop} : okQ (noPan Q) := fun _ _ _ _ _ hq => hq.1.elim
theorem vc_noPan {P : Program} {n : Fr} {c : Code} {Q : Exit → Act → World → Prop} {kn : Kn} {w : World} (h : vcC P n c (noPan Q) kn w) : vcC P n c Q kn w := fun a ha => Code.wp_mono (fun _ _ _ h => h.2) (h a ha)
theorem vq_noPan {n : Fr} {Q : Exit → Act → World → Prop} {kn : Kn} {w : World} (h : vcQ n Q .normal kn w) : vcQ n (noPan Q) .normal kn w := fun a ha => ⟨trivial, h a ha⟩
end Sx


namespace Go.Proofs.YtnmhlpnapgojjaaGreatDoor.Pq
open Go.RowKit Sx LexS ParS _root_.Go.Proofs.Tryz
theorem toks_chunk : ∀ {ts : List Tok} {j : Nat} {t : Tok}, ts[j]? = some t → ((toksL ts).drop (j * 4)).take 4 = tkL t
 | [], j, t, h => by simp at h
 | x :: r, 0, t, h => by
  simp only [List.getElem?_cons_zero, Option.some.injEq] at h
  subst h
  simp [toksL, tokL]
 | x :: r, j + 1, t, h => by
  have e : toksL (x :: r) = tokL x ++ toksL r := by simp [toksL]
  rw [e, show (j + 1) * 4 = (tokL x).length + j * 4 by simp [tokL]; omega, ← List.drop_drop, List.drop_left]
  exact toks_chunk (by simpa using h)
/-- a parser at a text's beginning -/
structure PNew (s : List UInt8) (n : Nat) (c : PCtx) (w' : World) : Prop where
 R : c.R = 75
 g : c.g = 0
 ts : c.ts = (front s).1
 e : c.e = s.length
 n0 : c.n0 = c.pb
 own : w'.ownsRow n 118 4 (.slice c.oa c.ts.length c.cap) c.ts.length (toksL c.ts)
 at_ : PAt c c.ts w'
 le : n ≤ c.pb
 lt : ∀ b ∈ obk c.oa, b < c.pb
 slen : s.length ≤ 65536
theorem PNew.ok {s : List UInt8} {n base : Nat} {c : PCtx} {r : List Tok} {w w' : World} (h : PNew s n c w) (hrow : w'.ownsRow base 118 4 (.slice c.oa c.ts.length c.cap) c.ts.length (toksL c.ts)) (hs : SigAt 0 w') (hp : PAt c r w') (h0 : 0 < n) : PCok c w' := by
 obtain ⟨hlen, hok⟩ := front_ok (s := s) (T := (front s).1) (f := (front s).2) rfl
 rw [← h.ts] at hlen hok
 have := h.slen
 refine ⟨?_, by rw [h.n0]; exact Nat.le_refl _, by rw [h.g, h.n0]; exact Nat.lt_of_lt_of_le h0 h.le, by omega, by rw [h.e]; omega, by rw [h.g]; exact hs, by rw [h.n0]; exact Nat.le_of_lt (Array.getElem?_eq_some_iff.1 hp).1, fun t ht => (hok t ht).2.1⟩
 refine (rowC_own (S := (· < c.n0)) (owns_mono hrow (fun b _ => Nat.zero_le _)) (fun b hb => by rw [h.n0]; exact h.lt b hb)).imp id fun ⟨g, off, e1, hb, hl, hc⟩ => ⟨g, off, e1, hb, hl, fun j hj => ?_⟩
 have := hc j hj
 dsimp only at this
 rw [toks_chunk (List.getElem?_eq_getElem hj)] at this
 simpa only [List.getD, List.getElem?_eq_getElem hj, Option.getD_some] using this
def BegunPost (s : List UInt8) (w : World) (v : Value) (w' : World) : Prop := Chg [] w w' ∧
 ((65536 < s.length ∧ v = .tuple #[.pointer none, .int .i64 4, .agg #[.int .i64 0, .int .i64 0]]) ∨
  (s.length ≤ 65536 ∧ ∃ rule p : Nat, (front s).2 = some (rule, p) ∧ v = .tuple #[.pointer none, .int .i64 30, .agg #[.int .i64 (p : Int), .int .i64 1]]) ∨
  (s.length ≤ 65536 ∧ (front s).2 = none ∧ ∃ c, PNew s w.heap.size c w' ∧ v = .tuple #[.pointer (some ⟨c.pb, 0, none⟩), .int .i64 0, .agg #[.int .i64 0, .int .i64 0]]))

theorem begun_any (s : List UInt8) (w : World) (hs : SigAt 0 w) : Ret Tryz.prog 35 [str s] w (BegunPost s w) := by
 refine ret_of [_] func35 rfl ntmps35 rfl ?_
 have st := St.init w []
 obtain ⟨w0, rfl⟩ : ∃ w0, w0 = w := ⟨_, rfl⟩
 refine vc_seq (vc_region ?_)
 iterate 2 refine ya ?_
 refine vc_e (e_al (l := [_, _]) st rfl rfl zeroValue29 rfl ?_)
 intro b4 w hb4 st
 refine vc_end (vq_then (vk2 0 4 (vc_seq (vc_region ?_))))
 refine ym ?_
 refine vc_e (e_call [_] rfl rfl call75 rfl (scan_any s _) ?_)
 rintro _ w ⟨cw, tq, tc, rfl, hown⟩
 replace st := St.pushOwn st cw hown
 obtain ⟨T, e, pl, ru, hT⟩ : ∃ T e pl ru, scanRes s = (T, e, pl, ru) := ⟨_, _, _, _, rfl⟩
 rw [hT] at st hown ⊢
 dsimp only at st hown ⊢
 refine ym ?_
 iterate 3 refine vy (y_ext rfl rfl) ?_
 refine vc_e (e_al (l := [_, _]) st rfl rfl zeroValue29 rfl ?_)
 intro b7 w hb7 st
 iterate 2 refine ya ?_
 refine vc_e (e_sts (vs := [_, _]) st 0 rfl rfl rfl rfl rfl sizeOf29 rfl rfl (by (right; assumption)) ?_)
 intro w st; dsimp only [setNth, wr] at st
 refine vc_end (vq_then (vk5 0 4 5 6 7 (vc_seq (vc_seq (vc_region ?_)))))
 refine ym ?_
 refine vc_end (vq_then (vk6 0 4 5 6 7 14 (vc_block (vc_seq (vc_region ?_)))))
 refine vy (y_eqi rfl rfl) ?_
 refine ya ?_
 refine vc_end (vq_then (vk7 0 4 5 6 7 14 15 ?_))
 refine vc_ifs rfl ?_ ?_
 ·intro hc15
  try simp only [dn] at hc15
  have he : e = 0 := by omega
  subst he
  have hsc : s.length ≤ 65536 ∧ (front s).2 = none ∧ T = (front s).1 := by
   unfold scanRes at hT
   split at hT
   ·cases hT
   ·rename_i hl
    split at hT
    ·rename_i hf; simp only [Prod.mk.injEq] at hT; exact ⟨by omega, hf, hT.1.symm⟩
    ·cases hT
  obtain ⟨hle, hfr, rfl⟩ := hsc
  obtain ⟨hlen, hok⟩ := front_ok (s := s) (T := (front s).1) (f := (front s).2) rfl
  refine vc_seq (vc_region ?_)
  iterate 2 refine ym ?_
  refine vy (y_lens rfl underlying9) ?_
  refine vy (y_bld (.agg #[_, _, _]) [(0, _), (2, _)] rfl (fun w => by simp [Instr.build, go_sem] <;> repeat' constructor)) ?_
  have hbt : ∀ b ∈ obk tq, b < w.heap.size := fun b hb => (owns_lt (st.res (i := 1) rfl) b hb).2
  refine vc_e (e_bxn (l := [_, _, _]) st rfl rfl rfl rfl ?_)
  intro b21 w hbe hb21 st
  refine vy (y_bld (.agg #[_, _]) [] rfl (fun w => by simp [Instr.build, go_sem] <;> repeat' constructor)) ?_
  iterate 2 refine ya ?_
  refine vc_e (e_sts (vs := [_, _]) st 3 rfl rfl rfl rfl rfl sizeOf29 rfl rfl (by (right; assumption)) ?_)
  intro w st; dsimp only [setNth, wr] at st
  refine vc_end (vq_then (vk3 2 3 4 (vc_ret (vq_block_ret (vq_then_ret ?_)))))
  refine vq_ret3 st (.inl rfl) results35 (.tmp rfl) (.tmp rfl) (by exact .cell 3 rfl rfl isAgg29 sizeOf29) ?_
  refine ⟨_, rfl, ?_⟩
  refine ⟨st.chg, .inr (.inr ⟨hle, hfr, ⟨b21, b21, tq, tc, (front s).1, s.length, 91, 75, 0⟩, ⟨rfl, rfl, rfl, rfl, rfl, st.res (i := 2) rfl, ?_, hb21, ?_, hle⟩, rfl⟩)⟩
  ·show w.heap[b21]? = _
   have h2 : w.heap[b21]? = some (.cells [.slice tq (front s).1.length tc, .int .i64 0, .int .i64 (s.length : Int)].toArray 91 (0, 0)) := st.res (i := 0) rfl
   rw [h2]; simp [pcell]
  ·intro b hb; show b < b21; rw [hbe]; exact hbt b hb
 ·intro hc15
  try simp only [dn] at hc15
  refine vc_seq (vc_region ?_)
  refine vy (y_eqi rfl rfl) ?_
  refine ya ?_
  refine vc_end (vq_then (vk4 4 6 7 23 ?_))
  refine vc_ifs rfl ?_ ?_
  ·intro hc23
   try simp only [dn] at hc23
   have he : e = 4 := by omega
   have hsc : 65536 < s.length := by
    unfold scanRes at hT
    split at hT
    ·assumption
    ·split at hT
     ·simp only [Prod.mk.injEq] at hT; omega
     ·simp only [Prod.mk.injEq] at hT; omega
   refine vc_seq (vc_region ?_)
   refine ym ?_
   refine vy (y_bld (.agg #[_, _]) [] rfl (fun w => by simp [Instr.build, go_sem] <;> repeat' constructor)) ?_
   iterate 2 refine ya ?_
   refine vc_e (e_sts (vs := [_, _]) st 2 rfl rfl rfl rfl rfl sizeOf29 rfl rfl (by (right; assumption)) ?_)
   intro w st; dsimp only [setNth, wr] at st
   refine vc_end (vq_then (vk3 2 3 4 (vc_ret (vq_block_ret (vq_then_ret ?_)))))
   refine vq_ret3 st (.inl rfl) results35 (.tmp rfl) (.tmp rfl) (by exact .cell 2 rfl rfl isAgg29 sizeOf29) ?_
   refine ⟨_, rfl, ?_⟩
   refine ⟨st.chg, .inl ⟨hsc, ?_⟩⟩
   rw [he]; rfl
  ·intro hc23
   try simp only [dn] at hc23
   have hsc : s.length ≤ 65536 ∧ (front s).2 = some (ru, pl) := by
    unfold scanRes at hT
    split at hT
    ·simp only [Prod.mk.injEq] at hT; omega
    ·rename_i hl
     split at hT
     ·simp only [Prod.mk.injEq] at hT; omega
     ·rename_i hf; simp only [Prod.mk.injEq] at hT
      obtain ⟨-, -, rfl, rfl⟩ := hT
      exact ⟨by omega, hf⟩
   refine vc_code_skip (vq_block (vq_then (vk2 4 7 (vc_seq ?_))))
   refine vc_draw Tryz.mixed [(0, true), (1, true), (2, true), (3, true), (4, true), (5, false)] (fun w => St _ _ [.blk b7 (.cells [.int .i64 (pl : Int), .int .i64 (ru : Int)].toArray 29 (0, 0))] w) st.dr (by kernel_rfl) (by repeat (first | exact okQ_noPan | exact okQ_body | exact okQ_bodyS | refine okQ_then ?_ | refine okQ_block ?_)) rfl (by kernel_rfl) ?_
   intro w cd; replace st := st.call0 cd; clear cd
   have hS : St _ _ [.blk b7 (.cells [.int .i64 (pl : Int), .int .i64 (ru : Int)].toArray 29 (0, 0))] w := st.dr
   refine pf0 hS underlying29 sizeOf3 ?_
   refine pld hS 0 isAgg3 ?_
   refine vp_take rfl rfl rfl hS (fun w st => y_bld (.agg #[_, _]) [(0, _), (1, _)] rfl (fun w => by simp [Instr.build, go_sem] <;> repeat' constructor)) ?_
   iterate 2 refine vp_take rfl rfl rfl hS (fun w st => y_as rfl) ?_
   refine vp_do rfl (e_sts (vs := [_, _]) st 2 rfl rfl rfl rfl rfl sizeOf29 rfl rfl (by (right; assumption)) ?_)
   intro w st; dsimp only [setNth, wr] at st
   refine vp_next st.dr ?_; intro hS
   refine vp_end (vq_then (vk3 2 3 4 (vc_ret ?_)))
   refine vq_ret3 st (.inl rfl) results35 (.tmp rfl) (.tmp rfl) (by exact .cell 2 rfl rfl isAgg29 sizeOf29) ?_
   refine ⟨_, rfl, ?_⟩
   exact ⟨st.chg, .inr (.inl ⟨hsc.1, ru, pl, hsc.2, rfl⟩)⟩

end Go.Proofs.YtnmhlpnapgojjaaGreatDoor.Pq


namespace Go.Proofs.YtnmhlpnapgojjaaGreatDoor.Pq
open Go.RowKit Sx LexS ParS _root_.Go.Proofs.Tryz
abbrev pg00 : List Value := [.slice none 0 0, .slice none 0 0, .slice none 0 0]

set_option maxHeartbeats 1000000 in
theorem parse_catch (b2 b3 b4 p ru : Nat) (e : Int) (w : World) (h2 : w.heap[b2]? = some (.cells pg00.toArray 26 (0, 0))) (h3 : w.heap[b3]? = some (.cells [.int .i64 e].toArray 27 (0, 0))) (h4 : w.heap[b4]? = some (.cells [.int .i64 0, .int .i64 0].toArray 29 (0, 0)))
    (n1 : b2 ≠ b3) (n2 : b2 ≠ b4) (n3 : b3 ≠ b4) : DefCatch Tryz.prog 36 [.pointer (some ⟨b2, 0, none⟩), .pointer (some ⟨b3, 0, none⟩), .pointer (some ⟨b4, 0, none⟩)].toArray (.iface 75 (.agg #[.int .i64 (p : Int), .int .i64 (ru : Int)])) w
  (fun w' => w'.heap[b2]? = some (.cells pg00.toArray 26 (0, 0)) ∧ w'.heap[b3]? = some (.cells [.int .i64 30].toArray 27 (0, 0)) ∧ w'.heap[b4]? = some (.cells [.int .i64 (p : Int), .int .i64 (ru : Int)].toArray 29 (0, 0)) ∧ Chg [b2, b3, b4] w w') := by
 refine callsD_of_wpS func36 rfl fun c₀ cs hu => ?_
 have st := St.of3 [b2, b3, b4] h2 h3 h4 n1 n2 n3
 apply wpS_seq
 apply wpS_region
 simp [wpOpsS, go_sem, recoverD, hu, ntmps36, Exit.thenS]
 apply wpS_seq
 apply wpS_region
 simp [wpOpsS, go_sem, Exit.thenS]
 refine wpS_cond (t := true) (by simp [Act.eval, Array.replicate]) ?_
 simp only [if_true]
 refine wpS_of_wp ?_
 refine wp_of_vc (n := (11, [])) (kn := [(0, .pointer (some ⟨b2, 0, none⟩)), (1, .pointer (some ⟨b3, 0, none⟩)), (2, .pointer (some ⟨b4, 0, none⟩)), (3, .iface 75 (.agg #[.int .i64 (p : Int), .int .i64 (ru : Int)]))]) (K.of (by rfl) ?_) ?_
 ·intro i v hv
  simp only [find] at hv
  repeat' split at hv
  all_goals first | (rename_i hh; have hh' := Nat.eq_of_beq_eq_true hh; subst hh'; cases hv; rfl) | simp at hv
 refine vd_draw Tryz.mixed (.take 0 (.take 1 (.two 2 4 (.take 3 (.one 4 (.one 5 (.one 6 .done)))) (.two 2 5 (.take 3 (.one 5 (.one 6 .done))) (.one 2 (.take 3 (.one 6 .done))))))) (fun w => St _ _ [] w) st.dr (by kernel_rfl) (by repeat (first | exact okQ_noPan | exact okQ_body | exact okQ_bodyS | refine okQ_then ?_ | refine okQ_block ?_)) rfl (by kernel_rfl) ?_
 intro w cd; replace st := st.call0 cd; clear cd
 have hS : St _ _ [] w := st.dr
 refine vd_take rfl rfl rfl hS (fun w st => y_bld (.agg #[_, _, _]) [] rfl (fun w => by simp [Instr.build, go_sem] <;> repeat' constructor)) ?_
 refine dm hS ?_
 refine vd_two rfl rfl ?_ ?_
 ·refine (e_run rfl rfl (y_ta rfl underlying75) ?_)
  refine vd_next st.dr ?_; intro hS
  refine vd_take rfl rfl rfl hS (fun w st => y_fldA (vs := [_, _]) rfl underlying75 rfl rfl isAgg29 sizeOf29 rfl) ?_
  refine vd_do rfl (e_sts (vs := [_, _, _]) st 0 rfl rfl rfl rfl rfl sizeOf26 rfl rfl (by (left; simp)) ?_)
  intro w st; dsimp only [setNth, wr] at st
  refine vd_next st.dr ?_; intro hS
  refine vd_do rfl (e_st st 1 rfl rfl rfl rfl sizeOf27 rfl rfl (by (left; simp)) ?_)
  intro w st; dsimp only [setNth, wr] at st
  refine vd_next st.dr ?_; intro hS
  refine vd_do rfl (e_sts (vs := [_, _]) st 2 rfl rfl rfl rfl rfl sizeOf29 rfl rfl (by (left; simp)) ?_)
  intro w st; dsimp only [setNth, wr] at st
  refine vd_next st.dr ?_; intro hS
  refine vd_end ?_
  intro a ha
  exact ⟨ha.defers, _, rfl, .tuple #[], by simp [results, results36], ⟨_, rfl⟩, rfl, by first | exact ⟨st.res (i := 0) rfl, st.res (i := 1) rfl, st.res (i := 2) rfl, st.chg⟩⟩
 ·refine (e_sts (vs := [_, _, _]) st 0 rfl rfl rfl rfl rfl sizeOf26 rfl rfl (by (left; simp)) ?_)
  intro w st; dsimp only [setNth, wr] at st
  refine vd_next st.dr ?_; intro hS
  refine vd_two rfl rfl ?_ ?_
  ·refine (e_run rfl rfl (y_ta rfl underlying75) ?_)
   refine vd_next st.dr ?_; intro hS
   refine vd_take rfl rfl rfl hS (fun w st => y_fldA (vs := [_, _]) rfl underlying75 rfl rfl isAgg29 sizeOf29 rfl) ?_
   refine vd_do rfl (e_st st 1 rfl rfl rfl rfl sizeOf27 rfl rfl (by (left; simp)) ?_)
   intro w st; dsimp only [setNth, wr] at st
   refine vd_next st.dr ?_; intro hS
   refine vd_do rfl (e_sts (vs := [_, _]) st 2 rfl rfl rfl rfl rfl sizeOf29 rfl rfl (by (left; simp)) ?_)
   intro w st; dsimp only [setNth, wr] at st
   refine vd_next st.dr ?_; intro hS
   refine vd_end ?_
   intro a ha
   exact ⟨ha.defers, _, rfl, .tuple #[], by simp [results, results36], ⟨_, rfl⟩, rfl, by first | exact ⟨st.res (i := 0) rfl, st.res (i := 1) rfl, st.res (i := 2) rfl, st.chg⟩⟩
  ·refine (e_st st 1 rfl rfl rfl rfl sizeOf27 rfl rfl (by (left; simp)) ?_)
   intro w st; dsimp only [setNth, wr] at st
   refine vd_next st.dr ?_; intro hS
   refine vd_do rfl (e_run rfl rfl (y_ta rfl underlying75) ?_)
   refine vd_next st.dr ?_; intro hS
   refine vd_take rfl rfl rfl hS (fun w st => y_fldA (vs := [_, _]) rfl underlying75 rfl rfl isAgg29 sizeOf29 rfl) ?_
   refine vd_do rfl (e_sts (vs := [_, _]) st 2 rfl rfl rfl rfl rfl sizeOf29 rfl rfl (by (left; simp)) ?_)
   intro w st; dsimp only [setNth, wr] at st
   refine vd_next st.dr ?_; intro hS
   refine vd_end ?_
   intro a ha
   exact ⟨ha.defers, _, rfl, .tuple #[], by simp [results, results36], ⟨_, rfl⟩, rfl, by first | exact ⟨st.res (i := 0) rfl, st.res (i := 1) rfl, st.res (i := 2) rfl, st.chg⟩⟩

set_option maxHeartbeats 1000000 in
theorem expr_catch (b2 b3 b4 p ru : Nat) (e : Int) (w : World) (h2 : w.heap[b2]? = some (.cells ex00.toArray 42 (0, 0))) (h3 : w.heap[b3]? = some (.cells [.int .i64 e].toArray 27 (0, 0))) (h4 : w.heap[b4]? = some (.cells [.int .i64 0, .int .i64 0].toArray 29 (0, 0)))
    (n1 : b2 ≠ b3) (n2 : b2 ≠ b4) (n3 : b3 ≠ b4) : DefCatch Tryz.prog 48 [.pointer (some ⟨b2, 0, none⟩), .pointer (some ⟨b3, 0, none⟩), .pointer (some ⟨b4, 0, none⟩)].toArray (.iface 75 (.agg #[.int .i64 (p : Int), .int .i64 (ru : Int)])) w
  (fun w' => w'.heap[b2]? = some (.cells ex00.toArray 42 (0, 0)) ∧ w'.heap[b3]? = some (.cells [.int .i64 30].toArray 27 (0, 0)) ∧ w'.heap[b4]? = some (.cells [.int .i64 (p : Int), .int .i64 (ru : Int)].toArray 29 (0, 0)) ∧ Chg [b2, b3, b4] w w') := by
 refine callsD_of_wpS func48 rfl fun c₀ cs hu => ?_
 have st := St.of3 [b2, b3, b4] h2 h3 h4 n1 n2 n3
 apply wpS_seq
 apply wpS_region
 simp [wpOpsS, go_sem, recoverD, hu, ntmps48, Exit.thenS]
 apply wpS_seq
 apply wpS_region
 simp [wpOpsS, go_sem, Exit.thenS]
 refine wpS_cond (t := true) (by simp [Act.eval, Array.replicate]) ?_
 simp only [if_true]
 refine wpS_of_wp ?_
 refine wp_of_vc (n := (11, [])) (kn := [(0, .pointer (some ⟨b2, 0, none⟩)), (1, .pointer (some ⟨b3, 0, none⟩)), (2, .pointer (some ⟨b4, 0, none⟩)), (3, .iface 75 (.agg #[.int .i64 (p : Int), .int .i64 (ru : Int)]))]) (K.of (by rfl) ?_) ?_
 ·intro i v hv
  simp only [find] at hv
  repeat' split at hv
  all_goals first | (rename_i hh; have hh' := Nat.eq_of_beq_eq_true hh; subst hh'; cases hv; rfl) | simp at hv
 refine vd_draw Tryz.mixed (.take 0 (.take 1 (.two 2 4 (.take 3 (.one 4 (.one 5 (.one 6 .done)))) (.two 2 5 (.take 3 (.one 5 (.one 6 .done))) (.one 2 (.take 3 (.one 6 .done))))))) (fun w => St _ _ [] w) st.dr (by kernel_rfl) (by repeat (first | exact okQ_noPan | exact okQ_body | exact okQ_bodyS | refine okQ_then ?_ | refine okQ_block ?_)) rfl (by kernel_rfl) ?_
 intro w cd; replace st := st.call0 cd; clear cd
 have hS : St _ _ [] w := st.dr
 refine vd_take rfl rfl rfl hS (fun w st => y_bld (.agg #[_, _, _, _, _, _]) [] rfl (fun w => by simp [Instr.build, go_sem] <;> repeat' constructor)) ?_
 refine dm hS ?_
 refine vd_two rfl rfl ?_ ?_
 ·refine (e_run rfl rfl (y_ta rfl underlying75) ?_)
  refine vd_next st.dr ?_; intro hS
  refine vd_take rfl rfl rfl hS (fun w st => y_fldA (vs := [_, _]) rfl underlying75 rfl rfl isAgg29 sizeOf29 rfl) ?_
  refine vd_do rfl (e_sts (vs := [_, _, _, _, _, _]) st 0 rfl rfl rfl rfl rfl sizeOf42 rfl rfl (by (left; simp)) ?_)
  intro w st; dsimp only [setNth, wr] at st
  refine vd_next st.dr ?_; intro hS
  refine vd_do rfl (e_st st 1 rfl rfl rfl rfl sizeOf27 rfl rfl (by (left; simp)) ?_)
  intro w st; dsimp only [setNth, wr] at st
  refine vd_next st.dr ?_; intro hS
  refine vd_do rfl (e_sts (vs := [_, _]) st 2 rfl rfl rfl rfl rfl sizeOf29 rfl rfl (by (left; simp)) ?_)
  intro w st; dsimp only [setNth, wr] at st
  refine vd_next st.dr ?_; intro hS
  refine vd_end ?_
  intro a ha
  exact ⟨ha.defers, _, rfl, .tuple #[], by simp [results, results48], ⟨_, rfl⟩, rfl, by first | exact ⟨st.res (i := 0) rfl, st.res (i := 1) rfl, st.res (i := 2) rfl, st.chg⟩⟩
 ·refine (e_sts (vs := [_, _, _, _, _, _]) st 0 rfl rfl rfl rfl rfl sizeOf42 rfl rfl (by (left; simp)) ?_)
  intro w st; dsimp only [setNth, wr] at st
  refine vd_next st.dr ?_; intro hS
  refine vd_two rfl rfl ?_ ?_
  ·refine (e_run rfl rfl (y_ta rfl underlying75) ?_)
   refine vd_next st.dr ?_; intro hS
   refine vd_take rfl rfl rfl hS (fun w st => y_fldA (vs := [_, _]) rfl underlying75 rfl rfl isAgg29 sizeOf29 rfl) ?_
   refine vd_do rfl (e_st st 1 rfl rfl rfl rfl sizeOf27 rfl rfl (by (left; simp)) ?_)
   intro w st; dsimp only [setNth, wr] at st
   refine vd_next st.dr ?_; intro hS
   refine vd_do rfl (e_sts (vs := [_, _]) st 2 rfl rfl rfl rfl rfl sizeOf29 rfl rfl (by (left; simp)) ?_)
   intro w st; dsimp only [setNth, wr] at st
   refine vd_next st.dr ?_; intro hS
   refine vd_end ?_
   intro a ha
   exact ⟨ha.defers, _, rfl, .tuple #[], by simp [results, results48], ⟨_, rfl⟩, rfl, by first | exact ⟨st.res (i := 0) rfl, st.res (i := 1) rfl, st.res (i := 2) rfl, st.chg⟩⟩
  ·refine (e_st st 1 rfl rfl rfl rfl sizeOf27 rfl rfl (by (left; simp)) ?_)
   intro w st; dsimp only [setNth, wr] at st
   refine vd_next st.dr ?_; intro hS
   refine vd_do rfl (e_run rfl rfl (y_ta rfl underlying75) ?_)
   refine vd_next st.dr ?_; intro hS
   refine vd_take rfl rfl rfl hS (fun w st => y_fldA (vs := [_, _]) rfl underlying75 rfl rfl isAgg29 sizeOf29 rfl) ?_
   refine vd_do rfl (e_sts (vs := [_, _]) st 2 rfl rfl rfl rfl rfl sizeOf29 rfl rfl (by (left; simp)) ?_)
   intro w st; dsimp only [setNth, wr] at st
   refine vd_next st.dr ?_; intro hS
   refine vd_end ?_
   intro a ha
   exact ⟨ha.defers, _, rfl, .tuple #[], by simp [results, results48], ⟨_, rfl⟩, rfl, by first | exact ⟨st.res (i := 0) rfl, st.res (i := 1) rfl, st.res (i := 2) rfl, st.chg⟩⟩

end Go.Proofs.YtnmhlpnapgojjaaGreatDoor.Pq


namespace Go.Proofs.YtnmhlpnapgojjaaGreatDoor.Pq
open Go.RowKit Sx LexS ParS _root_.Go.Proofs.Tryz

theorem parse_idle (args : List Value) (h3 : args.length = 3) (w : World) : DefIdle Tryz.prog 36 args.toArray w (fun w' => w' = w) := by
 refine callsD_of_wpS func36 rfl fun c₀ cs hu => ?_
 obtain ⟨x, y, z, rfl⟩ : ∃ x y z, args = [x, y, z] := by
  match args, h3 with
  | [x, y, z], _ => exact ⟨x, y, z, rfl⟩
 apply wpS_seq
 apply wpS_region
 simp [wpOpsS, go_sem, recoverD, hu, ntmps36, Exit.thenS]
 apply wpS_seq
 apply wpS_region
 simp [wpOpsS, go_sem, Exit.thenS]
 refine wpS_cond (t := false) (by simp [Act.eval, Array.replicate]) ?_
 simp only [Bool.false_eq_true, if_false]
 refine wpS_of_wp (wp_skip ?_)
 cases c₀
 simp_all [bodyPostS, results, results36]

theorem expr_idle (args : List Value) (h3 : args.length = 3) (w : World) : DefIdle Tryz.prog 48 args.toArray w (fun w' => w' = w) := by
 refine callsD_of_wpS func48 rfl fun c₀ cs hu => ?_
 obtain ⟨x, y, z, rfl⟩ : ∃ x y z, args = [x, y, z] := by
  match args, h3 with
  | [x, y, z], _ => exact ⟨x, y, z, rfl⟩
 apply wpS_seq
 apply wpS_region
 simp [wpOpsS, go_sem, recoverD, hu, ntmps48, Exit.thenS]
 apply wpS_seq
 apply wpS_region
 simp [wpOpsS, go_sem, Exit.thenS]
 refine wpS_cond (t := false) (by simp [Act.eval, Array.replicate]) ?_
 simp only [Bool.false_eq_true, if_false]
 refine wpS_of_wp (wp_skip ?_)
 cases c₀
 simp_all [bodyPostS, results, results48]

theorem _root_.Sx.St.push2 {w w' w0 : World} {M : List Nat} {hs : List Res} (st : St w0 M hs w) (c : Chg [] w w') {r q : Res} (hr : r.holds w0.heap.size w') (hq : q.holds w0.heap.size w') (hat : ∀ k ∈ r.at?, w.heap.size ≤ k) (hat' : ∀ k ∈ q.at?, w.heap.size ≤ k) (hd : ∀ k ∈ r.at?, k ∉ q.at?) : St w0 M (r :: q :: hs) w' := by
 have st1 := st.pushR c hq hat'
 refine ⟨st1.chg, List.pairwise_cons.2 ⟨fun x hx k hk hk' => ?_, st1.nodup⟩, fun x hx => ?_⟩
 ·rcases List.mem_cons.1 hx with rfl | h
  ·exact hd k hk hk'
  ·exact absurd (st.lt h hk') (by have := hat k hk; omega)
 ·rcases List.mem_cons.1 hx with rfl | h
  ·exact hr
  ·exact st1.here x h
theorem _root_.Sx.St.pnew {s : List UInt8} {c : PCtx} {w w' w0 : World} {M : List Nat} {hs : List Res} (st : St w0 M hs w) (ch : Chg [] w w') (h : PNew s w.heap.size c w') :
    St w0 M (.blk c.pb (.cells (pcell c c.ts).toArray c.T (0, 0)) :: .own (.slice c.oa c.ts.length c.cap) 118 4 c.ts.length (toksL c.ts) :: hs) w' :=
 st.push2 ch h.at_ (ownsRow_base h.own st.chg.size) (by simpa [Res.at?] using h.le) (fun k hk => (World.ownsRow.lt h.own k (by simpa [Res.at?] using hk)).1)
  (fun k hk => by
    simp only [Res.at?, List.mem_singleton] at hk
    subst hk
    intro hk'
    simp only [Res.at?, obk_own] at hk'
    exact absurd (h.lt _ hk') (Nat.lt_irrefl _))

/-- what 'Parse' leaves behind -/
def ParsePost (s : List UInt8) (w : World) (v : Value) (w' : World) : Prop := Chg [] w w' ∧ ∃ vp, HP w (parseRes s).1 vp w' ∧ v = .tuple #[vp, .int .i64 ((parseRes s).2.1 : Int), .agg #[.int .i64 ((parseRes s).2.2.1 : Int), .int .i64 ((parseRes s).2.2.2 : Int)]]
/-- what 'Expr' leaves behind -/
def ExprPost (s : List UInt8) (w : World) (v : Value) (w' : World) : Prop := Chg [] w w' ∧ ∃ vx, HE w (exprRes s).1 vx w' ∧ v = .tuple #[vx, .int .i64 ((exprRes s).2.1 : Int), .agg #[.int .i64 ((exprRes s).2.2.1 : Int), .int .i64 ((exprRes s).2.2.2 : Int)]]
theorem hp_none (w0 : World) (w' : World) : HP w0 pg0 (.agg pg00.toArray) w' :=
 ⟨none, none, none, 0, 0, 0, [], rfl, ⟨none, 0, none, 0, none, 0, [], [], [], rfl, ⟨World.ownsRow_nil _ _ _ _, rfl⟩, ⟨World.ownsRow_nil _ _ _ _, rfl⟩, ⟨[], [], World.ownsRow_nil _ _ _ _, rfl, rfl, rfl⟩, rfl⟩, Nw.nil⟩
theorem he_none (w0 : World) (w' : World) : HE w0 ex0 (.agg ex00.toArray) w' := ⟨none, 0, [], rfl, exr_nil, Nw.nil⟩
theorem _root_.Sx.holds_pg {tE tS tD tT base : Nat} {w : World} {q : Pg} {l : List Value} {S : List Nat} (h : PgS tE tS tD tT w q l S) : (Res.tree S fun w => PgS tE tS tD tT w q l S).holds base w := holds_of h h.lt (fun a b h hk => h.kept hk)

/-- a refusal is caught -/
theorem parse_pan {s : List UInt8} {w0 w : World} {b2 b3 b4 : Nat} {f : Flt} {kn : Kn} (h2 : w.heap[b2]? = some (.cells pg00.toArray 26 (0, 0))) (h3 : w.heap[b3]? = some (.cells [.int .i64 0].toArray 27 (0, 0))) (h4 : w.heap[b4]? = some (.cells [.int .i64 0, .int .i64 0].toArray 29 (0, 0)))
    (n1 : b2 ≠ b3) (n2 : b2 ≠ b4) (n3 : b3 ≠ b4) (l2 : w0.heap.size ≤ b2) (l3 : w0.heap.size ≤ b3) (l4 : w0.heap.size ≤ b4) (ch : Chg [] w0 w) (hpr : parseRes s = (pg0, 30, f.1, f.2))
  (k2 : find kn 2 = some (.pointer (some ⟨b2, 0, none⟩))) (k3 : find kn 3 = some (.pointer (some ⟨b3, 0, none⟩))) (k4 : find kn 4 = some (.pointer (some ⟨b4, 0, none⟩))) :
  PanK (21, [⟨.fn (.func 36) (List.toArray [.pointer (some ⟨b2, 0, none⟩), .pointer (some ⟨b3, 0, none⟩), .pointer (some ⟨b4, 0, none⟩)]), #[]⟩]) kn (bodyPostD Tryz.prog Tryz.f10 fun e w' => ∃ v, e = .returned v ∧ ParsePost s w0 v w') (.iface 75 (.agg #[.int .i64 (f.1 : Int), .int .i64 (f.2 : Int)])) w := by
 refine pan_leave call36 (parse_catch b2 b3 b4 f.1 f.2 _ w h2 h3 h4 n1 n2 n3) (fun w2 hc => ?_)
 obtain ⟨g2, g3, g4, c2⟩ := hc
 have st2 := St.of3 [] g2 g3 g4 n1 n2 n3
 refine ⟨_, results3 st2 results10 (.cell 0 k2 rfl isAgg26 sizeOf26) (.cell1 1 k3 rfl isAgg27 rfl) (.cell 2 k4 rfl isAgg29 sizeOf29), _, rfl, ch.trans' c2 (by simp [l2, l3, l4]), ?_⟩
 rw [hpr]
 exact ⟨_, hp_none _ _, rfl⟩

set_option maxHeartbeats 1000000 in
theorem parse_any (s : List UInt8) (w : World) (hsg : SigAt 0 w) : Ret Tryz.prog 10 [str s] w (ParsePost s w) := by
 refine retd_of [_] func10 rfl ntmps10 rfl ?_
 have st := St.init w []
 obtain ⟨w0, rfl⟩ : ∃ w0, w0 = w := ⟨_, rfl⟩
 have h0 : 0 < w0.heap.size := World.block_lt_of_cell? w0 _ (hsg 0 (by omega)).1
 refine vc_seq (vc_region ?_)
 refine vc_e (e_al (l := [_, _, _]) st rfl rfl zeroValue26 rfl ?_)
 intro b2 w hb2 st
 refine vc_e (e_al (l := [_]) st rfl rfl zeroValue27 rfl ?_)
 intro b3 w hb3 st
 refine vc_e (e_al (l := [_, _]) st rfl rfl zeroValue29 rfl ?_)
 intro b4 w hb4 st
 refine vc_end (vq_then (vk4 0 2 3 4 (vc_seq (vc_region ?_))))
 refine ym ?_
 have n43 := st.bne 0 1 (by decide) rfl rfl
 have n42 := st.bne 0 2 (by decide) rfl rfl
 have n32 := st.bne 1 2 (by decide) rfl rfl
 have n34 := Ne.symm n43
 have n24 := Ne.symm n42
 have n23 := Ne.symm n32
 have hw1 := st.chg.size
 refine vc_e (e_call [_] rfl rfl call35 rfl (begun_any s _ (hsg.kept st.chg (by simp))) ?_)
 rintro _ w ⟨cw, hb⟩
 rcases hb with ⟨hl, rfl⟩ | ⟨hl, ru, pl, hfr, rfl⟩ | ⟨hl, hfr, c, hn, rfl⟩
 ·replace st := st.call0 cw
  have hpr : parseRes s = (pg0, 4, 0, 0) := by simp [parseRes, hl]
  refine ym ?_
  iterate 3 refine vy (y_ext rfl rfl) ?_
  refine ya ?_
  refine vc_e (e_st st 1 rfl rfl rfl rfl sizeOf27 rfl rfl (by (right; assumption)) ?_)
  intro w st; dsimp only [setNth, wr] at st
  refine vc_e (e_sts (vs := [_, _]) st 0 rfl rfl rfl rfl rfl sizeOf29 rfl rfl (by (right; assumption)) ?_)
  intro w st; dsimp only [setNth, wr] at st
  refine vc_end (vq_then (vk4 2 3 4 5 (vc_seq (vc_seq (vc_region ?_)))))
  refine yl st 1 isAgg27 ?_
  refine vy (y_nei rfl rfl) ?_
  refine vc_end (vq_then (vk5 2 3 4 5 13 ?_))
  refine vc_ifs rfl ?_ ?_
  ·intro hc13
   try simp only [dn] at hc13
   refine vc_seq ?_
   refine vc_noPan ?_
   refine vc_draw Tryz.mixed [(0, true), (1, true), (2, true), (3, false), (4, false), (5, false)] (fun w => St _ _ _ w) st (by kernel_rfl) (by repeat (first | exact okQ_noPan | exact okQ_body | exact okQ_bodyS | refine okQ_then ?_ | refine okQ_block ?_)) rfl (by kernel_rfl) ?_
   intro w cd; replace st := st.call0 cd; clear cd
   have hS := st
   refine vp_take rfl rfl rfl hS (fun w st => y_lda (vs := [_, _, _]) st 2 rfl isAgg26 sizeOf26 rfl rfl) ?_
   refine pld hS 1 isAgg27 ?_
   refine vp_take rfl rfl rfl hS (fun w st => y_lda (vs := [_, _]) st 0 rfl isAgg29 sizeOf29 rfl rfl) ?_
   refine vp_do rfl (e_sts (vs := [_, _, _]) st 2 rfl rfl rfl rfl rfl sizeOf26 rfl rfl (by (right; assumption)) ?_)
   intro w st; dsimp only [setNth, wr] at st
   refine vp_next (by exact st) ?_; intro hS
   refine vp_do rfl (e_st st 1 rfl rfl rfl rfl sizeOf27 rfl rfl (by (right; assumption)) ?_)
   intro w st; dsimp only [setNth, wr] at st
   refine vp_next (by exact st) ?_; intro hS
   refine vp_do rfl (e_sts (vs := [_, _]) st 0 rfl rfl rfl rfl rfl sizeOf29 rfl rfl (by (right; assumption)) ?_)
   intro w st; dsimp only [setNth, wr] at st
   refine vp_next (by exact st) ?_; intro hS
   refine vp_end ?_
   refine vq_noPan ?_
   refine vq_then (vk3 2 3 4 (vc_ret (vq_then_ret ?_)))
   refine vqd_post (.inl rfl) (results3 st results10 (.cell 2 rfl rfl isAgg26 sizeOf26) (.cell1 1 rfl rfl isAgg27 rfl) (.cell 0 rfl rfl isAgg29 sizeOf29)) ?_
   refine ⟨_, rfl, st.chg, ?_⟩
   rw [hpr]
   exact ⟨_, hp_none _ _, rfl⟩
  ·intro hc13
   exact absurd hc13 (by decide)
 ·replace st := st.call0 cw
  have hpr : parseRes s = (pg0, 30, pl, 1) := by simp [parseRes, Nat.not_lt.2 hl, hfr]
  refine ym ?_
  iterate 3 refine vy (y_ext rfl rfl) ?_
  refine ya ?_
  refine vc_e (e_st st 1 rfl rfl rfl rfl sizeOf27 rfl rfl (by (right; assumption)) ?_)
  intro w st; dsimp only [setNth, wr] at st
  refine vc_e (e_sts (vs := [_, _]) st 0 rfl rfl rfl rfl rfl sizeOf29 rfl rfl (by (right; assumption)) ?_)
  intro w st; dsimp only [setNth, wr] at st
  refine vc_end (vq_then (vk4 2 3 4 5 (vc_seq (vc_seq (vc_region ?_)))))
  refine yl st 1 isAgg27 ?_
  refine vy (y_nei rfl rfl) ?_
  refine vc_end (vq_then (vk5 2 3 4 5 13 ?_))
  refine vc_ifs rfl ?_ ?_
  ·intro hc13
   try simp only [dn] at hc13
   refine vc_seq ?_
   refine vc_noPan ?_
   refine vc_draw Tryz.mixed [(0, true), (1, true), (2, true), (3, false), (4, false), (5, false)] (fun w => St _ _ _ w) st (by kernel_rfl) (by repeat (first | exact okQ_noPan | exact okQ_body | exact okQ_bodyS | refine okQ_then ?_ | refine okQ_block ?_)) rfl (by kernel_rfl) ?_
   intro w cd; replace st := st.call0 cd; clear cd
   have hS := st
   refine vp_take rfl rfl rfl hS (fun w st => y_lda (vs := [_, _, _]) st 2 rfl isAgg26 sizeOf26 rfl rfl) ?_
   refine pld hS 1 isAgg27 ?_
   refine vp_take rfl rfl rfl hS (fun w st => y_lda (vs := [_, _]) st 0 rfl isAgg29 sizeOf29 rfl rfl) ?_
   refine vp_do rfl (e_sts (vs := [_, _, _]) st 2 rfl rfl rfl rfl rfl sizeOf26 rfl rfl (by (right; assumption)) ?_)
   intro w st; dsimp only [setNth, wr] at st
   refine vp_next (by exact st) ?_; intro hS
   refine vp_do rfl (e_st st 1 rfl rfl rfl rfl sizeOf27 rfl rfl (by (right; assumption)) ?_)
   intro w st; dsimp only [setNth, wr] at st
   refine vp_next (by exact st) ?_; intro hS
   refine vp_do rfl (e_sts (vs := [_, _]) st 0 rfl rfl rfl rfl rfl sizeOf29 rfl rfl (by (right; assumption)) ?_)
   intro w st; dsimp only [setNth, wr] at st
   refine vp_next (by exact st) ?_; intro hS
   refine vp_end ?_
   refine vq_noPan ?_
   refine vq_then (vk3 2 3 4 (vc_ret (vq_then_ret ?_)))
   refine vqd_post (.inl rfl) (results3 st results10 (.cell 2 rfl rfl isAgg26 sizeOf26) (.cell1 1 rfl rfl isAgg27 rfl) (.cell 0 rfl rfl isAgg29 sizeOf29)) ?_
   refine ⟨_, rfl, st.chg, ?_⟩
   rw [hpr]
   exact ⟨_, hp_none _ _, rfl⟩
  ·intro hc13
   exact absurd hc13 (by decide)
 ·replace st := st.pnew cw hn
  have hpr : parseRes s = match progP c.e (c.ts.length + 1) c.ts with | .error f => (pg0, 30, f.1, f.2) | .ok p => (p, 0, 0, 0) := by
   unfold parseRes; rw [if_neg (by omega), hfr, hn.e, hn.ts]
   try rfl
  refine ym ?_
  iterate 3 refine vy (y_ext rfl rfl) ?_
  refine ya ?_
  refine vc_e (e_st st 3 rfl rfl rfl rfl sizeOf27 rfl rfl (by (right; assumption)) ?_)
  intro w st; dsimp only [setNth, wr] at st
  refine vc_e (e_sts (vs := [_, _]) st 2 rfl rfl rfl rfl rfl sizeOf29 rfl rfl (by (right; assumption)) ?_)
  intro w st; dsimp only [setNth, wr] at st
  refine vc_end (vq_then (vk4 2 3 4 5 (vc_seq (vc_seq (vc_region ?_)))))
  refine yl st 3 isAgg27 ?_
  refine vy (y_nei rfl rfl) ?_
  refine vc_end (vq_then (vk5 2 3 4 5 13 ?_))
  refine vc_ifs rfl ?_ ?_
  ·intro hc13
   exact absurd hc13 (by decide)
  ·intro hc13
   try simp only [dn] at hc13
   refine vc_code_skip (vq_then (vk4 2 3 4 5 (vc_seq (vc_region ?_))))
   refine vy (y_mf [] [_, _, _] rfl rfl) ?_
   refine vc_e (e_deferV rfl rfl rfl ?_)
   refine vc_end (vq_then (vk4 2 3 4 5 (vc_seq (vc_region ?_))))
   refine ym ?_
   refine vc_e (e_callk [_] rfl rfl call37 rfl (pprog_any c hn.R hn.g c.ts (List.suffix_refl _) _ (hn.ok (st.res (i := 1) rfl) (hsg.kept st.chg (by simp)) (st.res (i := 0) rfl) (Nat.lt_of_lt_of_le h0 hw1)) (st.res (i := 0) rfl) (c.ts.length + 1) (by omega)) (by
       rintro _ w' ⟨f, hf, rfl, ch⟩
       obtain ⟨o', ho'⟩ : ∃ o', w'.heap[c.pb]? = some o' := ⟨_, Array.getElem?_eq_getElem (Nat.lt_of_lt_of_le (Array.getElem?_eq_some_iff.1 (st.res (i := 0) rfl)).1 ch.size)⟩
       have st' := St.prs (b := c.pb) st 0 rfl ch (.inr (Nat.le_trans hw1 hn.le)) ho'
       dsimp only [setNth] at st'
       rw [show refV c f = .iface 75 (.agg #[.int .i64 (f.1 : Int), .int .i64 (f.2 : Int)]) by rw [refV, hn.R]]
       exact parse_pan (st'.res (i := 4) rfl) (st'.res (i := 3) rfl) (st'.res (i := 2) rfl) n23 n24 n34 hb2 hb3 hb4 st'.chg (by rw [hpr, hf]) rfl rfl rfl) ?_)
   rintro _ w ⟨q, hq, cw, os, ol, ot, cs, cl, ct, Sq, rfl, hT, hN⟩
   have hw2 := st.chg.size
   obtain ⟨o', ho'⟩ : ∃ o', w.heap[c.pb]? = some o' := ⟨_, Array.getElem?_eq_getElem (Nat.lt_of_lt_of_le (Array.getElem?_eq_some_iff.1 (st.res (i := 0) rfl)).1 cw.size)⟩
   replace st := St.prsT (b := c.pb) st 0 rfl cw (.inr (Nat.le_trans hw1 hn.le)) ho' (holds_pg hT) hN.2
   dsimp only [setNth] at st
   refine vy (y_bld (.agg #[_, _]) [] rfl (fun w => by simp [Instr.build, go_sem] <;> repeat' constructor)) ?_
   refine vc_e (e_sts (vs := [_, _, _]) st 5 rfl rfl rfl rfl rfl sizeOf26 rfl rfl (by (right; assumption)) ?_)
   intro w st; dsimp only [setNth, wr] at st
   refine vc_e (e_st st 4 rfl rfl rfl rfl sizeOf27 rfl rfl (by (right; assumption)) ?_)
   intro w st; dsimp only [setNth, wr] at st
   refine vc_e (e_sts (vs := [_, _]) st 3 rfl rfl rfl rfl rfl sizeOf29 rfl rfl (by (right; assumption)) ?_)
   intro w st; dsimp only [setNth, wr] at st
   refine vc_end (vq_then (vk3 2 3 4 (vc_ret ?_)))
   refine vqd_ret (.inl rfl) call36 (parse_idle [.pointer (some ⟨b2, 0, none⟩), .pointer (some ⟨b3, 0, none⟩), .pointer (some ⟨b4, 0, none⟩)] rfl _) (fun w2 e2 => ?_)
   subst e2
   refine ⟨_, results3 st results10 (.cell 5 rfl rfl isAgg26 sizeOf26) (.cell1 4 rfl rfl isAgg27 rfl) (.cell 3 rfl rfl isAgg29 sizeOf29), _, rfl, st.chg, ?_⟩
   rw [hpr, hq]
   dsimp only
   exact ⟨_, ⟨os, ol, ot, cs, cl, ct, Sq, rfl, (st.res (i := 0) rfl).1, hN.le hw2⟩, rfl⟩

/-- a refusal is caught -/
theorem expr_pan {s : List UInt8} {w0 w : World} {b2 b3 b4 : Nat} {f : Flt} {kn : Kn} (h2 : w.heap[b2]? = some (.cells ex00.toArray 42 (0, 0))) (h3 : w.heap[b3]? = some (.cells [.int .i64 0].toArray 27 (0, 0))) (h4 : w.heap[b4]? = some (.cells [.int .i64 0, .int .i64 0].toArray 29 (0, 0)))
    (n1 : b2 ≠ b3) (n2 : b2 ≠ b4) (n3 : b3 ≠ b4) (l2 : w0.heap.size ≤ b2) (l3 : w0.heap.size ≤ b3) (l4 : w0.heap.size ≤ b4) (ch : Chg [] w0 w) (hpr : exprRes s = (ex0, 30, f.1, f.2))
  (k2 : find kn 2 = some (.pointer (some ⟨b2, 0, none⟩))) (k3 : find kn 3 = some (.pointer (some ⟨b3, 0, none⟩))) (k4 : find kn 4 = some (.pointer (some ⟨b4, 0, none⟩))) :
  PanK (35, [⟨.fn (.func 48) (List.toArray [.pointer (some ⟨b2, 0, none⟩), .pointer (some ⟨b3, 0, none⟩), .pointer (some ⟨b4, 0, none⟩)]), #[]⟩]) kn (bodyPostD Tryz.prog Tryz.f16 fun e w' => ∃ v, e = .returned v ∧ ExprPost s w0 v w') (.iface 75 (.agg #[.int .i64 (f.1 : Int), .int .i64 (f.2 : Int)])) w := by
 refine pan_leave call48 (expr_catch b2 b3 b4 f.1 f.2 _ w h2 h3 h4 n1 n2 n3) (fun w2 hc => ?_)
 obtain ⟨g2, g3, g4, c2⟩ := hc
 have st2 := St.of3 [] g2 g3 g4 n1 n2 n3
 refine ⟨_, results3 st2 results16 (.cell 0 k2 rfl isAgg42 sizeOf42) (.cell1 1 k3 rfl isAgg27 rfl) (.cell 2 k4 rfl isAgg29 sizeOf29), _, rfl, ch.trans' c2 (by simp [l2, l3, l4]), ?_⟩
 rw [hpr]
 exact ⟨_, he_none _ _, rfl⟩

set_option maxHeartbeats 1000000 in
theorem expr_any (s : List UInt8) (w : World) (hsg : SigAt 0 w) : Ret Tryz.prog 16 [str s] w (ExprPost s w) := by
 refine retd_of [_] func16 rfl ntmps16 rfl ?_
 have st := St.init w []
 obtain ⟨w0, rfl⟩ : ∃ w0, w0 = w := ⟨_, rfl⟩
 have h0 : 0 < w0.heap.size := World.block_lt_of_cell? w0 _ (hsg 0 (by omega)).1
 refine vc_seq (vc_region ?_)
 refine vc_e (e_al (l := [_, _, _, _, _, _]) st rfl rfl zeroValue42 rfl ?_)
 intro b2 w hb2 st
 refine vc_e (e_al (l := [_]) st rfl rfl zeroValue27 rfl ?_)
 intro b3 w hb3 st
 refine vc_e (e_al (l := [_, _]) st rfl rfl zeroValue29 rfl ?_)
 intro b4 w hb4 st
 refine vc_end (vq_then (vk4 0 2 3 4 (vc_seq (vc_region ?_))))
 refine ym ?_
 have n43 := st.bne 0 1 (by decide) rfl rfl
 have n42 := st.bne 0 2 (by decide) rfl rfl
 have n32 := st.bne 1 2 (by decide) rfl rfl
 have n34 := Ne.symm n43
 have n24 := Ne.symm n42
 have n23 := Ne.symm n32
 have hw1 := st.chg.size
 refine vc_e (e_call [_] rfl rfl call35 rfl (begun_any s _ (hsg.kept st.chg (by simp))) ?_)
 rintro _ w ⟨cw, hb⟩
 rcases hb with ⟨hl, rfl⟩ | ⟨hl, ru, pl, hfr, rfl⟩ | ⟨hl, hfr, c, hn, rfl⟩
 ·replace st := st.call0 cw
  have hpr : exprRes s = (ex0, 4, 0, 0) := by simp [exprRes, hl]
  refine ym ?_
  iterate 3 refine vy (y_ext rfl rfl) ?_
  refine ya ?_
  refine vc_e (e_st st 1 rfl rfl rfl rfl sizeOf27 rfl rfl (by (right; assumption)) ?_)
  intro w st; dsimp only [setNth, wr] at st
  refine vc_e (e_sts (vs := [_, _]) st 0 rfl rfl rfl rfl rfl sizeOf29 rfl rfl (by (right; assumption)) ?_)
  intro w st; dsimp only [setNth, wr] at st
  refine vc_end (vq_then (vk4 2 3 4 5 (vc_seq (vc_seq (vc_region ?_)))))
  refine yl st 1 isAgg27 ?_
  refine vy (y_nei rfl rfl) ?_
  refine vc_end (vq_then (vk5 2 3 4 5 14 ?_))
  refine vc_ifs rfl ?_ ?_
  ·intro hc14
   try simp only [dn] at hc14
   refine vc_seq ?_
   refine vc_noPan ?_
   refine vc_draw Tryz.mixed [(0, true), (1, true), (2, true), (3, false), (4, false), (5, false)] (fun w => St _ _ _ w) st (by kernel_rfl) (by repeat (first | exact okQ_noPan | exact okQ_body | exact okQ_bodyS | refine okQ_then ?_ | refine okQ_block ?_)) rfl (by kernel_rfl) ?_
   intro w cd; replace st := st.call0 cd; clear cd
   have hS := st
   refine vp_take rfl rfl rfl hS (fun w st => y_lda (vs := [_, _, _, _, _, _]) st 2 rfl isAgg42 sizeOf42 rfl rfl) ?_
   refine pld hS 1 isAgg27 ?_
   refine vp_take rfl rfl rfl hS (fun w st => y_lda (vs := [_, _]) st 0 rfl isAgg29 sizeOf29 rfl rfl) ?_
   refine vp_do rfl (e_sts (vs := [_, _, _, _, _, _]) st 2 rfl rfl rfl rfl rfl sizeOf42 rfl rfl (by (right; assumption)) ?_)
   intro w st; dsimp only [setNth, wr] at st
   refine vp_next (by exact st) ?_; intro hS
   refine vp_do rfl (e_st st 1 rfl rfl rfl rfl sizeOf27 rfl rfl (by (right; assumption)) ?_)
   intro w st; dsimp only [setNth, wr] at st
   refine vp_next (by exact st) ?_; intro hS
   refine vp_do rfl (e_sts (vs := [_, _]) st 0 rfl rfl rfl rfl rfl sizeOf29 rfl rfl (by (right; assumption)) ?_)
   intro w st; dsimp only [setNth, wr] at st
   refine vp_next (by exact st) ?_; intro hS
   refine vp_end ?_
   refine vq_noPan ?_
   refine vq_then (vk3 2 3 4 (vc_ret (vq_then_ret ?_)))
   refine vqd_post (.inl rfl) (results3 st results16 (.cell 2 rfl rfl isAgg42 sizeOf42) (.cell1 1 rfl rfl isAgg27 rfl) (.cell 0 rfl rfl isAgg29 sizeOf29)) ?_
   refine ⟨_, rfl, st.chg, ?_⟩
   rw [hpr]
   exact ⟨_, he_none _ _, rfl⟩
  ·intro hc14
   exact absurd hc14 (by decide)
 ·replace st := st.call0 cw
  have hpr : exprRes s = (ex0, 30, pl, 1) := by simp [exprRes, Nat.not_lt.2 hl, hfr]
  refine ym ?_
  iterate 3 refine vy (y_ext rfl rfl) ?_
  refine ya ?_
  refine vc_e (e_st st 1 rfl rfl rfl rfl sizeOf27 rfl rfl (by (right; assumption)) ?_)
  intro w st; dsimp only [setNth, wr] at st
  refine vc_e (e_sts (vs := [_, _]) st 0 rfl rfl rfl rfl rfl sizeOf29 rfl rfl (by (right; assumption)) ?_)
  intro w st; dsimp only [setNth, wr] at st
  refine vc_end (vq_then (vk4 2 3 4 5 (vc_seq (vc_seq (vc_region ?_)))))
  refine yl st 1 isAgg27 ?_
  refine vy (y_nei rfl rfl) ?_
  refine vc_end (vq_then (vk5 2 3 4 5 14 ?_))
  refine vc_ifs rfl ?_ ?_
  ·intro hc14
   try simp only [dn] at hc14
   refine vc_seq ?_
   refine vc_noPan ?_
   refine vc_draw Tryz.mixed [(0, true), (1, true), (2, true), (3, false), (4, false), (5, false)] (fun w => St _ _ _ w) st (by kernel_rfl) (by repeat (first | exact okQ_noPan | exact okQ_body | exact okQ_bodyS | refine okQ_then ?_ | refine okQ_block ?_)) rfl (by kernel_rfl) ?_
   intro w cd; replace st := st.call0 cd; clear cd
   have hS := st
   refine vp_take rfl rfl rfl hS (fun w st => y_lda (vs := [_, _, _, _, _, _]) st 2 rfl isAgg42 sizeOf42 rfl rfl) ?_
   refine pld hS 1 isAgg27 ?_
   refine vp_take rfl rfl rfl hS (fun w st => y_lda (vs := [_, _]) st 0 rfl isAgg29 sizeOf29 rfl rfl) ?_
   refine vp_do rfl (e_sts (vs := [_, _, _, _, _, _]) st 2 rfl rfl rfl rfl rfl sizeOf42 rfl rfl (by (right; assumption)) ?_)
   intro w st; dsimp only [setNth, wr] at st
   refine vp_next (by exact st) ?_; intro hS
   refine vp_do rfl (e_st st 1 rfl rfl rfl rfl sizeOf27 rfl rfl (by (right; assumption)) ?_)
   intro w st; dsimp only [setNth, wr] at st
   refine vp_next (by exact st) ?_; intro hS
   refine vp_do rfl (e_sts (vs := [_, _]) st 0 rfl rfl rfl rfl rfl sizeOf29 rfl rfl (by (right; assumption)) ?_)
   intro w st; dsimp only [setNth, wr] at st
   refine vp_next (by exact st) ?_; intro hS
   refine vp_end ?_
   refine vq_noPan ?_
   refine vq_then (vk3 2 3 4 (vc_ret (vq_then_ret ?_)))
   refine vqd_post (.inl rfl) (results3 st results16 (.cell 2 rfl rfl isAgg42 sizeOf42) (.cell1 1 rfl rfl isAgg27 rfl) (.cell 0 rfl rfl isAgg29 sizeOf29)) ?_
   refine ⟨_, rfl, st.chg, ?_⟩
   rw [hpr]
   exact ⟨_, he_none _ _, rfl⟩
  ·intro hc14
   exact absurd hc14 (by decide)
 ·replace st := st.pnew cw hn
  have hpr : exprRes s = match exprP c.e 64 c.ts with | .error f => (ex0, 30, f.1, f.2) | .ok (x, r) => if r.length = 0 then (x, 0, 0, 0) else (ex0, 30, atT c.e r, 2) := by
   unfold exprRes; rw [if_neg (by omega), hfr, hn.e, hn.ts]
   try rfl
  refine ym ?_
  iterate 3 refine vy (y_ext rfl rfl) ?_
  refine ya ?_
  refine vc_e (e_st st 3 rfl rfl rfl rfl sizeOf27 rfl rfl (by (right; assumption)) ?_)
  intro w st; dsimp only [setNth, wr] at st
  refine vc_e (e_sts (vs := [_, _]) st 2 rfl rfl rfl rfl rfl sizeOf29 rfl rfl (by (right; assumption)) ?_)
  intro w st; dsimp only [setNth, wr] at st
  refine vc_end (vq_then (vk4 2 3 4 5 (vc_seq (vc_seq (vc_region ?_)))))
  refine yl st 3 isAgg27 ?_
  refine vy (y_nei rfl rfl) ?_
  refine vc_end (vq_then (vk5 2 3 4 5 14 ?_))
  refine vc_ifs rfl ?_ ?_
  ·intro hc14
   exact absurd hc14 (by decide)
  ·intro hc14
   try simp only [dn] at hc14
   refine vc_code_skip (vq_then (vk4 2 3 4 5 (vc_seq (vc_region ?_))))
   refine vy (y_mf [] [_, _, _] rfl rfl) ?_
   refine vc_e (e_deferV rfl rfl rfl ?_)
   refine vc_end (vq_then (vk4 2 3 4 5 (vc_seq (vc_region ?_))))
   refine ym ?_
   refine vc_e (e_callk [_, _] rfl rfl call49 rfl (pexpr_any c hn.R hn.g c.ts (List.suffix_refl _) _ (hn.ok (st.res (i := 1) rfl) (hsg.kept st.chg (by simp)) (st.res (i := 0) rfl) (Nat.lt_of_lt_of_le h0 hw1)) (st.res (i := 0) rfl)) (by
       rintro _ w' ⟨f, hf, rfl, ch⟩
       obtain ⟨o', ho'⟩ : ∃ o', w'.heap[c.pb]? = some o' := ⟨_, Array.getElem?_eq_getElem (Nat.lt_of_lt_of_le (Array.getElem?_eq_some_iff.1 (st.res (i := 0) rfl)).1 ch.size)⟩
       have st' := St.prs (b := c.pb) st 0 rfl ch (.inr (Nat.le_trans hw1 hn.le)) ho'
       dsimp only [setNth] at st'
       rw [show refV c f = .iface 75 (.agg #[.int .i64 (f.1 : Int), .int .i64 (f.2 : Int)]) by rw [refV, hn.R]]
       exact expr_pan (st'.res (i := 4) rfl) (st'.res (i := 3) rfl) (st'.res (i := 2) rfl) n23 n24 n34 hb2 hb3 hb4 st'.chg (by rw [hpr, hf]) rfl rfl rfl) ?_)
   rintro _ w ⟨x, r1, hx, hsf, hln, hP1, cw, oq, cq, Sq, rfl, hT, hN⟩
   have hw2 := st.chg.size
   replace st := St.prsT (b := c.pb) st 0 rfl cw (.inr (Nat.le_trans hw1 hn.le)) hP1 (holds_ex hT) hN.2
   dsimp only [setNth] at st
   rw [hx] at hpr
   dsimp only at hpr
   have hsl := suf_len hsf
   refine vc_e (e_al (l := [_, _, _, _, _, _]) st rfl rfl zeroValue42 rfl ?_)
   intro b6 w hb6 st
   refine vc_e (e_sts (vs := [_, _, _, _, _, _]) st 0 rfl rfl rfl rfl rfl sizeOf42 rfl rfl (by (right; assumption)) ?_)
   intro w st; dsimp only [setNth, wr] at st
   refine vc_end (vq_then (vk5 2 3 4 5 6 (vc_seq (vc_seq ?_))))
   refine vc_noPan ?_
   refine vc_draw Tryz.mixed [(0, true), (1, true), (2, true), (3, true), (4, true), (5, true), (6, true), (7, true), (8, true), (9, true)] (fun w => St _ _ _ w) st (by kernel_rfl) (by repeat (first | exact okQ_noPan | exact okQ_body | exact okQ_bodyS | refine okQ_then ?_ | refine okQ_block ?_)) rfl (by kernel_rfl) ?_
   intro w cd; replace st := st.call0 cd; clear cd
   have hS := st
   refine pm hS ?_
   refine pnk hS ?_
   refine pfz hS 1 underlying91 sizeOf3 ?_
   refine pld hS 2 isAgg3 ?_
   refine pm hS ?_
   refine pnk hS ?_
   refine pf0 hS underlying91 sizeOf89 ?_
   refine pld hS 2 isAgg89 ?_
   refine vp_take rfl rfl rfl hS (fun w st => y_lensl rfl underlying89) ?_
   refine vp_take rfl rfl rfl hS (fun w st => y_lss rfl rfl) ?_
   refine vp_end ?_
   refine vq_noPan ?_
   refine vq_then (vk6 2 3 4 5 6 30 ?_)
   refine vc_ifs rfl ?_ ?_
   ·intro hc30
    try simp only [dn] at hc30
    have hr0 : 0 < r1.length := by omega
    refine vc_region ?_
    refine ym ?_
    refine vc_e (e_callk [_, _] rfl rfl call50 rfl (pfail_any c 2 r1 hsf _ (hn.ok (st.res (i := 3) rfl) (hsg.kept st.chg (by simp)) (st.res (i := 2) rfl) (Nat.lt_of_lt_of_le h0 hw1)) (st.res (i := 2) rfl) hn.R) (by
        rintro _ w' ⟨rfl, ch⟩
        rw [show refV c (atT c.e r1, 2) = .iface 75 (.agg #[.int .i64 (atT c.e r1 : Int), .int .i64 (2 : Nat)]) by rw [refV, hn.R]]
        have st' := st.call0 ch
        exact expr_pan (f := (atT c.e r1, 2)) (st'.res (i := 6) rfl) (st'.res (i := 5) rfl) (st'.res (i := 4) rfl) n23 n24 n34 hb2 hb3 hb4 st'.chg (by rw [hpr, if_neg (by omega)]) rfl rfl rfl) (fun _ _ h => h.elim))
   ·intro hc30
    try simp only [dn] at hc30
    have hr0 : r1.length = 0 := by omega
    refine vc_code_skip (vq_then (vk4 2 3 4 6 (vc_seq (vc_region ?_))))
    refine yla st 0 [_, _, _, _, _, _] isAgg42 sizeOf42 ?_
    refine vy (y_bld (.agg #[_, _]) [] rfl (fun w => by simp [Instr.build, go_sem] <;> repeat' constructor)) ?_
    refine vc_e (e_sts (vs := [_, _, _, _, _, _]) st 6 rfl rfl rfl rfl rfl sizeOf42 rfl rfl (by (right; assumption)) ?_)
    intro w st; dsimp only [setNth, wr] at st
    refine vc_e (e_st st 5 rfl rfl rfl rfl sizeOf27 rfl rfl (by (right; assumption)) ?_)
    intro w st; dsimp only [setNth, wr] at st
    refine vc_e (e_sts (vs := [_, _]) st 4 rfl rfl rfl rfl rfl sizeOf29 rfl rfl (by (right; assumption)) ?_)
    intro w st; dsimp only [setNth, wr] at st
    refine vc_end (vq_then (vk3 2 3 4 (vc_ret ?_)))
    refine vqd_ret (.inl rfl) call48 (expr_idle [.pointer (some ⟨b2, 0, none⟩), .pointer (some ⟨b3, 0, none⟩), .pointer (some ⟨b4, 0, none⟩)] rfl _) (fun w2 e2 => ?_)
    subst e2
    refine ⟨_, results3 st results16 (.cell 6 rfl rfl isAgg42 sizeOf42) (.cell1 5 rfl rfl isAgg27 rfl) (.cell 4 rfl rfl isAgg29 sizeOf29), _, rfl, st.chg, ?_⟩
    rw [hpr, if_pos hr0]
    exact ⟨_, ⟨oq, cq, Sq, rfl, (st.res (i := 1) rfl).1, hN.le hw2⟩, rfl⟩

end Go.Proofs.YtnmhlpnapgojjaaGreatDoor.Pq


/- Trees with each name and place turned: no program in sight. -/
namespace LexS
open Sx
section
variable (g : List UInt8 → List UInt8) (h : Int → Int)
mutual
def trE : Ex → Ex
  | .mk k op wd nm kids a => .mk k op wd (g nm) (trEs kids) (h a)
termination_by structural e => e
def trEs : List Ex → List Ex
  | [] => []
  | e :: r => trE e :: trEs r
termination_by structural l => l
end
mutual
def trS : Sm → Sm
  | .mk k nm other e body els a => .mk k (g nm) (g other) (trEs g h e) (trSs body) (trSs els) (h a)
termination_by structural e => e
def trSs : List Sm → List Sm
  | [] => []
  | e :: r => trS e :: trSs r
termination_by structural l => l
end
def trD (d : Dc) : Dc := ⟨g d.nm, d.wd, h d.a⟩
def trT (t : Th) : Th := ⟨g t.nm, t.locals.map (trD g h), trSs g h t.body, h t.a⟩
def trP (p : Pg) : Pg := ⟨p.shared.map (trD g h), p.locks.map (trD g h), p.threads.map (trT g h)⟩
end
variable {g : List UInt8 → List UInt8} {h : Int → Int}
theorem trEs_map (l : List Ex) : trEs g h l = l.map (trE g h) := by
  induction l with
  | nil => rfl
  | cons x r ih => simp only [trEs, List.map_cons, ih]
theorem trSs_map (l : List Sm) : trSs g h l = l.map (trS g h) := by
  induction l with
  | nil => rfl
  | cons x r ih => simp only [trSs, List.map_cons, ih]
end LexS


/- The names of a tree: no program in sight. -/
namespace LexS
open Sx
end LexS


/- How long a tree's text is: no program in sight. -/
namespace LexS
open Sx
theorem shw_len20 (x : Int) (hx : i64 x) : (shw x).length ≤ 20 := by
  have h : (dec x.natAbs).length ≤ 19 := dec_len 18 _ (by have := hx.1; have := hx.2; omega)
  unfold shw
  split <;> simp <;> omega
theorem par_len (b : Bool) (l : List UInt8) : (par b l).length ≤ l.length + 2 := by
  unfold par
  split <;> simp
theorem txtE_len : ∀ (n : Nat) (e : Ex), SizeOf.sizeOf e = n → OkE e → (txtE e).length ≤ 30 * szE e := by
  intro n
  refine Nat.strongRecOn n fun n ih e hn hok => ?_
  subst hn
  cases e with
  | mk k op wd nm kids a =>
    have hw := shw_len20 wd hok.wd
    have ho := shwO_len op
    have hkid : ∀ (j : Nat) x, kids[j]? = some x → (txtE x).length ≤ 30 * szE x := fun j x hx => ih _ (by have := List.sizeOf_lt_of_mem (List.mem_of_getElem? hx); simp; omega) x rfl (hok.kid (j := j) hx)
    rcases kids with _ | ⟨x, _ | ⟨y, _ | ⟨z, r⟩⟩⟩
    · simp only [txtE, szE, szEs]
      split
      · omega
      · split
        · omega
        · split <;> simp; omega
    · have h1 := hkid 0 x rfl
      have h2 := par_len (decide (x.k = 4)) (txtE x)
      simp only [txtE, szE, szEs]
      split
      · omega
      · split
        · omega
        · split
          · simp only [List.length_append]; omega
          · simp
    · have h1 := hkid 0 x rfl
      have h2 := par_len (inn op x false) (txtE x)
      have h3 := hkid 1 y rfl
      have h4 := par_len (inn op y true) (txtE y)
      simp only [txtE, szE, szEs]
      split
      · omega
      · split
        · omega
        · split
          · simp; omega
          · simp only [List.length_append, List.length_cons, List.length_nil]; omega
    · simp only [txtE, szE, szEs]
      split
      · omega
      · split
        · omega
        · split <;> simp; omega
theorem txX_len (l : List Ex) (h : OkEs l) : (txX l).length ≤ 30 * szEs l := by
  cases l with
  | nil => simp [txX]
  | cons x r => have := txtE_len _ x rfl (h.2 0 x rfl); simp only [txX, szEs]; omega
theorem mar_len' (d : Nat) : (mar d).length = 2 * d := by simp [mar]
theorem txtSs_len_of {l : List Sm} {d : Nat} (h : ∀ s ∈ l, rightS s d = true → (txtS s d).length ≤ 600 * szS s) (hr : rightSs l d = true) : (txtSs l d).length ≤ 600 * szSs l := by
  induction l with
  | nil => simp [txtSs]
  | cons s r ih =>
    simp only [rightSs, Bool.and_eq_true] at hr
    have h1 := h s (by simp) hr.1
    have h2 := ih (fun x hx => h x (.tail _ hx)) hr.2
    simp only [txtSs, szSs, List.length_append]; omega
theorem txtS_len : ∀ (n : Nat) (s : Sm), SizeOf.sizeOf s = n → OkS s → ∀ d, d ≤ 64 → rightS s d = true → (txtS s d).length ≤ 600 * szS s := by
  intro n
  refine Nat.strongRecOn n fun n ih s hn hok d hd hr => ?_
  subst hn
  cases s with
  | mk k nm other e body els a =>
    have hx := txX_len e hok.e
    rw [rightS] at hr
    simp only [Bool.and_eq_true, Bool.or_eq_true, decide_eq_true_eq, Bool.not_eq_true', Bool.or_eq_false_iff, decide_eq_false_iff_not] at hr
    obtain ⟨⟨⟨⟨⟨⟨⟨⟨h1, h2⟩, h3⟩, h4⟩, h5⟩, h6⟩, h7⟩, h8⟩, h9⟩ := hr
    have hm := mar_len' d
    have hb : d < 64 ∨ (body = [] ∧ els = []) := by
      rcases h7 with ⟨q1, q2⟩ | h
      · right
        refine ⟨?_, List.eq_nil_of_length_eq_zero (by omega)⟩
        rcases h5 with h | h
        · rw [q1] at h; cases h
        · exact List.eq_nil_of_length_eq_zero h
      · exact .inl h
    have hB : (txtSs body (d + 1)).length ≤ 600 * szSs body := by
      rcases hb with h | ⟨rfl, -⟩
      · refine txtSs_len_of (fun s hs hr => ?_) h8
        obtain ⟨j, hj⟩ := List.mem_iff_getElem?.1 hs
        exact ih _ (by have := List.sizeOf_lt_of_mem hs; simp; omega) s rfl (hok.body.2 j s hj) (d + 1) (by omega) hr
      · simp [txtSs]
    have hL : (txtSs els (d + 1)).length ≤ 600 * szSs els := by
      rcases hb with h | ⟨-, rfl⟩
      · refine txtSs_len_of (fun s hs hr => ?_) h9
        obtain ⟨j, hj⟩ := List.mem_iff_getElem?.1 hs
        exact ih _ (by have := List.sizeOf_lt_of_mem hs; simp; omega) s rfl (hok.els.2 j s hj) (d + 1) (by omega) hr
      · simp [txtSs]
    rw [txtS, szS]
    split
    · simp only [List.length_append, List.length_cons, List.length_nil]; omega
    · split
      · simp only [List.length_append, List.length_cons, List.length_nil]; omega
      · split
        · simp only [List.length_append, List.length_cons, List.length_nil]; omega
        · split
          · simp only [List.length_append, List.length_cons, List.length_nil]; omega
          · split
            · simp only [List.length_append, List.length_cons, List.length_nil]; omega
            · have hw : (if k = 4 then [119, 104, 105, 108, 101, 32, 40] else [105, 102, 32, 40] : List UInt8).length ≤ 7 := by split <;> simp
              have hz : (if 0 < els.length then mar d ++ [125, 32, 101, 108, 115, 101, 32, 123, 10] ++ txtSs els (d + 1) else [] : List UInt8).length ≤ 2 * d + 9 + 600 * szSs els := by
                split
                · simp only [List.length_append, List.length_cons, List.length_nil]; omega
                · simp
              rw [List.length_append, List.length_append, List.length_append, List.length_append, List.length_append, List.length_append, List.length_append]
              simp only [List.length_cons, List.length_nil]
              omega
theorem txtSs_len {l : List Sm} {d : Nat} (hok : OkSs l) (hd : d ≤ 64) (hr : rightSs l d = true) : (txtSs l d).length ≤ 600 * szSs l :=
  txtSs_len_of (fun s hs h => by
    obtain ⟨j, hj⟩ := List.mem_iff_getElem?.1 hs
    exact txtS_len _ s rfl (hok.2 j s hj) d hd h) hr
theorem joinC_len2 : ∀ (l : List Dc), (∀ x ∈ l, i64 x.wd) → (joinC (l.map dcT)).length ≤ 30 * szDs l
  | [], _ => by simp [joinC]
  | [x], h => by
    have := shw_len20 x.wd (h x (by simp))
    simp only [List.map_cons, List.map_nil, joinC, dcT, szDs]
    split <;> simp <;> omega
  | x :: y :: r, h => by
    have h0 := shw_len20 x.wd (h x (by simp))
    have ih := joinC_len2 (y :: r) (fun z hz => h z (.tail _ hz))
    simp only [List.map_cons, joinC, szDs, List.length_append, List.length_cons, List.length_nil] at ih ⊢
    have : (dcT x).length ≤ x.nm.length + 23 := by unfold dcT; split <;> simp <;> omega
    omega
theorem dcsT_len (word : List UInt8) (d : Nat) (l : List Dc) (h : OkD l) : (dcsT word d l).length ≤ 2 * d + word.length + 3 + 30 * szDs l := by
  have := joinC_len2 l (fun x hx => by obtain ⟨j, hj⟩ := List.mem_iff_getElem?.1 hx; exact (h.2 j x hj).1)
  unfold dcsT
  split
  · simp
  · simp only [List.length_append, List.length_cons, List.length_nil, mar_len']; omega
theorem thsT_len : ∀ (l : List Th), (∀ t ∈ l, OkD t.locals ∧ OkSs t.body) → (∀ t ∈ l, thOk t = true) → ((l.map thT).flatten).length ≤ 600 * szTs l
  | [], _, _ => by simp
  | t :: r, h, h2 => by
    obtain ⟨q1, q2⟩ := h t (by simp)
    have ih := thsT_len r (fun x hx => h x (.tail _ hx)) (fun x hx => h2 x (.tail _ hx))
    have h3 := h2 t (by simp)
    unfold thOk at h3
    simp only [Bool.and_eq_true] at h3
    have h4 := txtSs_len q2 (d := 1) (by omega) h3.2
    have h5 := dcsT_len [108, 111, 99, 97, 108] 1 t.locals q1
    simp only [List.map_cons, List.flatten_cons, List.length_append, szTs, thT, List.length_cons, List.length_nil] at h5 ih ⊢
    omega
theorem pgT_len (p : Pg) (hok : OkP p) (hp : pgOk p = true) : (pgT p).length ≤ 100 + 600 * szP p := by
  obtain ⟨h1, h2, h3⟩ := hok
  unfold pgOk at hp
  simp only [Bool.and_eq_true] at hp
  have a1 := dcsT_len [115, 104, 97, 114, 101, 100] 0 p.shared h1
  have a2 := dcsT_len [108, 111, 99, 107] 0 p.locks h2
  have a3 := thsT_len p.threads (fun t ht => by obtain ⟨j, hj⟩ := List.mem_iff_getElem?.1 ht; exact ⟨(h3.2 j t hj).1, (h3.2 j t hj).2.1⟩) (fun t ht => List.all_eq_true.1 hp.2 t ht)
  simp only [pgT, szP, List.length_append, List.length_cons, List.length_nil] at a1 a2 a3 ⊢
  omega
end LexS


/- Places change no text: no program in sight. -/
namespace LexS
open Sx
abbrev idS : List UInt8 → List UInt8 := fun s => s
section
variable {h : Int → Int}
theorem trE_k (e : Ex) : (trE idS h e).k = e.k := by cases e; rfl
theorem trE_op (e : Ex) : (trE idS h e).op = e.op := by cases e; rfl
theorem inn_tr (op : Int) (x : Ex) (b : Bool) : inn op (trE idS h x) b = inn op x b := by unfold inn; rw [trE_k, trE_op]
theorem rightE_tr : ∀ (n : Nat) (e : Ex), SizeOf.sizeOf e = n → ∀ d, rightE (trE idS h e) d = rightE e d := by
  intro n
  refine Nat.strongRecOn n fun n ih e hn d => ?_
  subst hn
  cases e with
  | mk k op wd nm kids a =>
    have hkid : ∀ x ∈ kids, ∀ d, rightE (trE idS h x) d = rightE x d := fun x hx d => ih _ (by have := List.sizeOf_lt_of_mem hx; simp; omega) x rfl d
    rcases kids with _ | ⟨x, _ | ⟨y, _ | ⟨z, r⟩⟩⟩
    · simp only [trE, trEs, rightE]
    · simp only [trE, trEs, rightE, trE_k, hkid x (by simp)]; simp
    · simp only [trE, trEs, rightE, inn_tr, hkid x (by simp), hkid y (by simp)]; simp
    · simp only [trE, trEs, rightE]; simp
theorem txtE_tr : ∀ (n : Nat) (e : Ex), SizeOf.sizeOf e = n → txtE (trE idS h e) = txtE e := by
  intro n
  refine Nat.strongRecOn n fun n ih e hn => ?_
  subst hn
  cases e with
  | mk k op wd nm kids a =>
    have hkid : ∀ x ∈ kids, txtE (trE idS h x) = txtE x := fun x hx => ih _ (by have := List.sizeOf_lt_of_mem hx; simp; omega) x rfl
    rcases kids with _ | ⟨x, _ | ⟨y, _ | ⟨z, r⟩⟩⟩
    · simp only [trE, trEs, txtE]
    · simp only [trE, trEs, txtE, trE_k, hkid x (by simp)]
    · simp only [trE, trEs, txtE, inn_tr, hkid x (by simp), hkid y (by simp)]
    · simp only [trE, trEs, txtE]
theorem rightX_tr (b : Bool) (l : List Ex) : rightX b (trEs idS h l) = rightX b l := by
  rcases l with _ | ⟨x, _ | ⟨y, r⟩⟩
  · rfl
  · simp only [trEs, rightX, rightE_tr _ x rfl]; simp
  · simp only [trEs, rightX]; simp [trEs_map]
theorem txX_tr (l : List Ex) : txX (trEs idS h l) = txX l := by
  cases l with
  | nil => rfl
  | cons x r => simp only [trEs, txX, txtE_tr _ x rfl]
theorem trSs_len' (l : List Sm) : (trSs idS h l).length = l.length := by rw [trSs_map, List.length_map]
mutual
theorem rightS_tr : ∀ (s : Sm) (d : Nat), rightS (trS idS h s) d = rightS s d
  | .mk k nm other e body els a, d => by
    simp only [trS, rightS, rightX_tr, trSs_len', rightSs_tr body, rightSs_tr els]
termination_by structural s => s
theorem rightSs_tr : ∀ (l : List Sm) (d : Nat), rightSs (trSs idS h l) d = rightSs l d
  | [], d => rfl
  | s :: r, d => by simp only [trSs, rightSs, rightS_tr s, rightSs_tr r]
termination_by structural l => l
end
mutual
theorem txtS_tr : ∀ (s : Sm) (d : Nat), txtS (trS idS h s) d = txtS s d
  | .mk k nm other e body els a, d => by
    simp only [trS, txtS, txX_tr, trSs_len', txtSs_tr body, txtSs_tr els]
termination_by structural s => s
theorem txtSs_tr : ∀ (l : List Sm) (d : Nat), txtSs (trSs idS h l) d = txtSs l d
  | [], d => rfl
  | s :: r, d => by simp only [trSs, txtSs, txtS_tr s, txtSs_tr r]
termination_by structural l => l
end
theorem all_map {α : Type} {p : α → Bool} {f : α → α} (hp : ∀ x, p (f x) = p x) (l : List α) : (l.map f).all p = l.all p := by
  rw [List.all_map]; congr 1; funext x; exact hp x
theorem dcOk_tr (b : Bool) (x : Dc) : dcOk b (trD idS h x) = dcOk b x := rfl
theorem thOk_tr (t : Th) : thOk (trT idS h t) = thOk t := by
  simp only [thOk, trT, all_map (dcOk_tr false), rightSs_tr]
theorem dcsT_tr (word : List UInt8) (d : Nat) (l : List Dc) : dcsT word d (l.map (trD idS h)) = dcsT word d l := by
  simp only [dcsT, List.length_map, List.map_map]; rfl
theorem thT_tr (t : Th) : thT (trT idS h t) = thT t := by
  simp only [thT, trT, dcsT_tr, txtSs_tr]
theorem pgOk_tr (p : Pg) : pgOk (trP idS h p) = pgOk p := by
  simp only [pgOk, trP, all_map (dcOk_tr true), all_map (dcOk_tr false), all_map thOk_tr]
theorem pgT_tr (p : Pg) : pgT (trP idS h p) = pgT p := by
  simp only [pgT, trP, dcsT_tr, List.map_map]
  congr 2
  refine List.map_congr_left fun t _ => ?_
  exact thT_tr t
theorem pgRes_tr (p : Pg) : pgRes (trP idS h p) = pgRes p := by
  simp only [pgRes, pgOk_tr, pgT_tr]
end
/-! ### twice -/
section
variable {g : List UInt8 → List UInt8} {h g' : List UInt8 → List UInt8} {k k' : Int → Int}
mutual
theorem trE_trE : ∀ e : Ex, trE g' k' (trE g k e) = trE (fun s => g' (g s)) (fun a => k' (k a)) e
  | .mk _ op wd nm kids a => by simp only [trE, trEs_trEs kids]
termination_by structural e => e
theorem trEs_trEs : ∀ l : List Ex, trEs g' k' (trEs g k l) = trEs (fun s => g' (g s)) (fun a => k' (k a)) l
  | [] => rfl
  | e :: r => by simp only [trEs, trE_trE e, trEs_trEs r]
termination_by structural l => l
end
mutual
theorem trS_trS : ∀ s : Sm, trS g' k' (trS g k s) = trS (fun s => g' (g s)) (fun a => k' (k a)) s
  | .mk _ nm other e body els a => by simp only [trS, trEs_trEs, trSs_trSs body, trSs_trSs els]
termination_by structural e => e
theorem trSs_trSs : ∀ l : List Sm, trSs g' k' (trSs g k l) = trSs (fun s => g' (g s)) (fun a => k' (k a)) l
  | [] => rfl
  | s :: r => by simp only [trSs, trS_trS s, trSs_trSs r]
termination_by structural l => l
end
theorem trP_trP (p : Pg) : trP g' k' (trP g k p) = trP (fun s => g' (g s)) (fun a => k' (k a)) p := by
  have hd : ∀ l : List Dc, (l.map (trD g k)).map (trD g' k') = l.map (trD (fun s => g' (g s)) (fun a => k' (k a))) := fun l => by rw [List.map_map]; rfl
  simp only [trP, hd, List.map_map]
  congr 1
  refine List.map_congr_left fun t _ => ?_
  simp only [Function.comp, trT, hd, trSs_trSs]
end
/-! ### the numbers stay of their kinds -/
section
variable {g : List UInt8 → List UInt8} {k : Int → Int} (hk : ∀ a, i64 a → i64 (k a))
include hk
end
end LexS


/- A tree renamed: no program in sight. -/
namespace LexS
open Sx
theorem rightE_iff {e : Ex} {d : Nat} : rightE e d = true ↔ d ≤ 64 ∧ ((e.k = 1 ∧ 0 ≤ e.wd ∧ e.op = 0 ∧ e.nm = [] ∧ e.kids = []) ∨ (e.k = 2 ∧ isName e.nm = true ∧ e.op = 0 ∧ e.wd = 0 ∧ e.kids = []) ∨
    (e.k = 3 ∧ oneOp e.op = true ∧ e.wd = 0 ∧ e.nm = [] ∧ ∃ x, e.kids = [x] ∧ rightE x (if x.k = 4 then d + 2 else d + 1) = true) ∨
    (e.k = 4 ∧ twoOp e.op = true ∧ e.wd = 0 ∧ e.nm = [] ∧ ∃ x y, e.kids = [x, y] ∧ rightE x (if inn e.op x false = true then d + 1 else d) = true ∧ rightE y (if inn e.op y true = true then d + 1 else d) = true)) := by
  cases e with
  | mk k op wd nm kids a =>
    simp only [Ex.k, Ex.op, Ex.wd, Ex.nm, Ex.kids]
    rcases kids with _ | ⟨x, _ | ⟨y, _ | ⟨z, r⟩⟩⟩ <;>
    · simp only [rightE, Bool.and_eq_true, decide_eq_true_eq]
      refine and_congr_right fun _ => ?_
      by_cases h1 : k = 1
      · subst h1; simp
      by_cases h2 : k = 2
      · subst h2; simp
      by_cases h3 : k = 3
      · subst h3; simp [and_assoc] <;> (try (intros; constructor <;> intro h <;> first | exact h | exact ⟨_, rfl, h⟩ | exact ⟨_, _, rfl, rfl, h⟩ | exact ⟨_, rfl, _, rfl, h⟩ | (obtain ⟨_, rfl, h⟩ := h; exact h) | (obtain ⟨_, _, rfl, rfl, h⟩ := h; exact h) | (obtain ⟨_, rfl, _, rfl, h⟩ := h; exact h)))
      by_cases h4 : k = 4
      · subst h4; simp [and_assoc] <;> (try (intros; constructor <;> intro h <;> first | exact h | exact ⟨_, rfl, h⟩ | exact ⟨_, _, rfl, rfl, h⟩ | exact ⟨_, rfl, _, rfl, h⟩ | (obtain ⟨_, rfl, h⟩ := h; exact h) | (obtain ⟨_, _, rfl, rfl, h⟩ := h; exact h) | (obtain ⟨_, rfl, _, rfl, h⟩ := h; exact h)))
      simp [h1, h2, h3, h4]
theorem rightX_iff {b : Bool} {e : List Ex} : rightX b e = true ↔ (b = true ∧ ∃ x, e = [x] ∧ rightE x 0 = true) ∨ (b = false ∧ e = []) := by
  cases b
  · simp [rightX]
  · rcases e with _ | ⟨x, _ | ⟨y, r⟩⟩ <;> simp [rightX]
section
variable {g : Wd → Wd} {h : Int → Int}
end
end LexS

