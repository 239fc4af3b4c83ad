/- A part of the proof: contracts of functions and plain laws; each theorem says its own conditions. -/
import Derived.Test.YtnmhlpnapgojjaaGreatDoorPrettyBackK1
import Derived.Test.YtnmhlpnapgojjaaGreatDoorPrettyBackK13
import Derived.Test.YtnmhlpnapgojjaaGreatDoorPrettyBackK14
import Derived.Test.YtnmhlpnapgojjaaGreatDoorPrettyBackK0
import Derived.Test.YtnmhlpnapgojjaaGreatDoorPrettyBackK10
import Derived.Test.YtnmhlpnapgojjaaGreatDoorPrettyBackK2
import Derived.Test.YtnmhlpnapgojjaaGreatDoorPrettyBackK9
import Derived.Test.YtnmhlpnapgojjaaGreatDoorPrettyBackK11
set_option linter.unusedVariables false
set_option linter.unusedSimpArgs false
namespace Go.Proofs.YtnmhlpnapgojjaaGreatDoor.Pq
open Go.RowKit Sx LexS ParS _root_.Go.Proofs.Tryz
theorem toks_chunk : ∀ {ts : List Tok} {j : Nat} {t : Tok}, ts[j]? = some t → ((toksL ts).drop (j * 4)).take 4 = tkL t
 | [], j, t, h => by simp at h
 | x :: r, 0, t, h => by
  simp only [List.getElem?_cons_zero, Option.some.injEq] at h
  subst h
  simp [toksL, tokL]
 | x :: r, j + 1, t, h => by
  have e : toksL (x :: r) = tokL x ++ toksL r := by simp [toksL]
  rw [e, show (j + 1) * 4 = (tokL x).length + j * 4 by simp [tokL]; omega, ← List.drop_drop, List.drop_left]
  exact toks_chunk (by simpa using h)
/-- a parser at a text's beginning -/
structure PNew (s : List UInt8) (n : Nat) (c : PCtx) (w' : World) : Prop where
 R : c.R = 75
 g : c.g = 0
 ts : c.ts = (front s).1
 e : c.e = s.length
 n0 : c.n0 = c.pb
 own : w'.ownsRow n 118 4 (.slice c.oa c.ts.length c.cap) c.ts.length (toksL c.ts)
 at_ : PAt c c.ts w'
 le : n ≤ c.pb
 lt : ∀ b ∈ obk c.oa, b < c.pb
 slen : s.length ≤ 65536
theorem PNew.ok {s : List UInt8} {n base : Nat} {c : PCtx} {r : List Tok} {w w' : World} (h : PNew s n c w) (hrow : w'.ownsRow base 118 4 (.slice c.oa c.ts.length c.cap) c.ts.length (toksL c.ts)) (hs : SigAt 0 w') (hp : PAt c r w') (h0 : 0 < n) : PCok c w' := by
 obtain ⟨hlen, hok⟩ := front_ok (s := s) (T := (front s).1) (f := (front s).2) rfl
 rw [← h.ts] at hlen hok
 have := h.slen
 refine ⟨?_, by rw [h.n0]; exact Nat.le_refl _, by rw [h.g, h.n0]; exact Nat.lt_of_lt_of_le h0 h.le, by omega, by rw [h.e]; omega, by rw [h.g]; exact hs, by rw [h.n0]; exact Nat.le_of_lt (Array.getElem?_eq_some_iff.1 hp).1, fun t ht => (hok t ht).2.1⟩
 refine (rowC_own (S := (· < c.n0)) (owns_mono hrow (fun b _ => Nat.zero_le _)) (fun b hb => by rw [h.n0]; exact h.lt b hb)).imp id fun ⟨g, off, e1, hb, hl, hc⟩ => ⟨g, off, e1, hb, hl, fun j hj => ?_⟩
 have := hc j hj
 dsimp only at this
 rw [toks_chunk (List.getElem?_eq_getElem hj)] at this
 simpa only [List.getD, List.getElem?_eq_getElem hj, Option.getD_some] using this
def BegunPost (s : List UInt8) (w : World) (v : Value) (w' : World) : Prop := Chg [] w w' ∧
 ((65536 < s.length ∧ v = .tuple #[.pointer none, .int .i64 4, .agg #[.int .i64 0, .int .i64 0]]) ∨
  (s.length ≤ 65536 ∧ ∃ rule p : Nat, (front s).2 = some (rule, p) ∧ v = .tuple #[.pointer none, .int .i64 30, .agg #[.int .i64 (p : Int), .int .i64 1]]) ∨
  (s.length ≤ 65536 ∧ (front s).2 = none ∧ ∃ c, PNew s w.heap.size c w' ∧ v = .tuple #[.pointer (some ⟨c.pb, 0, none⟩), .int .i64 0, .agg #[.int .i64 0, .int .i64 0]]))

theorem begun_any (s : List UInt8) (w : World) (hs : SigAt 0 w) : Ret Tryz.prog 35 [str s] w (BegunPost s w) := by
 refine ret_of [_] func35 rfl ntmps35 rfl ?_
 have st := St.init w []
 obtain ⟨w0, rfl⟩ : ∃ w0, w0 = w := ⟨_, rfl⟩
 refine vc_seq (vc_region ?_)
 iterate 2 refine ya ?_
 refine vc_e (e_al (l := [_, _]) st rfl rfl zeroValue29 rfl ?_)
 intro b4 w hb4 st
 refine vc_end (vq_then (vk2 0 4 (vc_seq (vc_region ?_))))
 refine ym ?_
 refine vc_e (e_call [_] rfl rfl call75 rfl (scan_any s _) ?_)
 rintro _ w ⟨cw, tq, tc, rfl, hown⟩
 replace st := St.pushOwn st cw hown
 obtain ⟨T, e, pl, ru, hT⟩ : ∃ T e pl ru, scanRes s = (T, e, pl, ru) := ⟨_, _, _, _, rfl⟩
 rw [hT] at st hown ⊢
 dsimp only at st hown ⊢
 refine ym ?_
 iterate 3 refine vy (y_ext rfl rfl) ?_
 refine vc_e (e_al (l := [_, _]) st rfl rfl zeroValue29 rfl ?_)
 intro b7 w hb7 st
 iterate 2 refine ya ?_
 refine vc_e (e_sts (vs := [_, _]) st 0 rfl rfl rfl rfl rfl sizeOf29 rfl rfl (by (right; assumption)) ?_)
 intro w st; dsimp only [setNth, wr] at st
 refine vc_end (vq_then (vk5 0 4 5 6 7 (vc_seq (vc_seq (vc_region ?_)))))
 refine ym ?_
 refine vc_end (vq_then (vk6 0 4 5 6 7 14 (vc_block (vc_seq (vc_region ?_)))))
 refine vy (y_eqi rfl rfl) ?_
 refine ya ?_
 refine vc_end (vq_then (vk7 0 4 5 6 7 14 15 ?_))
 refine vc_ifs rfl ?_ ?_
 ·intro hc15
  try simp only [dn] at hc15
  have he : e = 0 := by omega
  subst he
  have hsc : s.length ≤ 65536 ∧ (front s).2 = none ∧ T = (front s).1 := by
   unfold scanRes at hT
   split at hT
   ·cases hT
   ·rename_i hl
    split at hT
    ·rename_i hf; simp only [Prod.mk.injEq] at hT; exact ⟨by omega, hf, hT.1.symm⟩
    ·cases hT
  obtain ⟨hle, hfr, rfl⟩ := hsc
  obtain ⟨hlen, hok⟩ := front_ok (s := s) (T := (front s).1) (f := (front s).2) rfl
  refine vc_seq (vc_region ?_)
  iterate 2 refine ym ?_
  refine vy (y_lens rfl underlying9) ?_
  refine vy (y_bld (.agg #[_, _, _]) [(0, _), (2, _)] rfl (fun w => by simp [Instr.build, go_sem] <;> repeat' constructor)) ?_
  have hbt : ∀ b ∈ obk tq, b < w.heap.size := fun b hb => (owns_lt (st.res (i := 1) rfl) b hb).2
  refine vc_e (e_bxn (l := [_, _, _]) st rfl rfl rfl rfl ?_)
  intro b21 w hbe hb21 st
  refine vy (y_bld (.agg #[_, _]) [] rfl (fun w => by simp [Instr.build, go_sem] <;> repeat' constructor)) ?_
  iterate 2 refine ya ?_
  refine vc_e (e_sts (vs := [_, _]) st 3 rfl rfl rfl rfl rfl sizeOf29 rfl rfl (by (right; assumption)) ?_)
  intro w st; dsimp only [setNth, wr] at st
  refine vc_end (vq_then (vk3 2 3 4 (vc_ret (vq_block_ret (vq_then_ret ?_)))))
  refine vq_ret3 st (.inl rfl) results35 (.tmp rfl) (.tmp rfl) (by exact .cell 3 rfl rfl isAgg29 sizeOf29) ?_
  refine ⟨_, rfl, ?_⟩
  refine ⟨st.chg, .inr (.inr ⟨hle, hfr, ⟨b21, b21, tq, tc, (front s).1, s.length, 91, 75, 0⟩, ⟨rfl, rfl, rfl, rfl, rfl, st.res (i := 2) rfl, ?_, hb21, ?_, hle⟩, rfl⟩)⟩
  ·show w.heap[b21]? = _
   have h2 : w.heap[b21]? = some (.cells [.slice tq (front s).1.length tc, .int .i64 0, .int .i64 (s.length : Int)].toArray 91 (0, 0)) := st.res (i := 0) rfl
   rw [h2]; simp [pcell]
  ·intro b hb; show b < b21; rw [hbe]; exact hbt b hb
 ·intro hc15
  try simp only [dn] at hc15
  refine vc_seq (vc_region ?_)
  refine vy (y_eqi rfl rfl) ?_
  refine ya ?_
  refine vc_end (vq_then (vk4 4 6 7 23 ?_))
  refine vc_ifs rfl ?_ ?_
  ·intro hc23
   try simp only [dn] at hc23
   have he : e = 4 := by omega
   have hsc : 65536 < s.length := by
    unfold scanRes at hT
    split at hT
    ·assumption
    ·split at hT
     ·simp only [Prod.mk.injEq] at hT; omega
     ·simp only [Prod.mk.injEq] at hT; omega
   refine vc_seq (vc_region ?_)
   refine ym ?_
   refine vy (y_bld (.agg #[_, _]) [] rfl (fun w => by simp [Instr.build, go_sem] <;> repeat' constructor)) ?_
   iterate 2 refine ya ?_
   refine vc_e (e_sts (vs := [_, _]) st 2 rfl rfl rfl rfl rfl sizeOf29 rfl rfl (by (right; assumption)) ?_)
   intro w st; dsimp only [setNth, wr] at st
   refine vc_end (vq_then (vk3 2 3 4 (vc_ret (vq_block_ret (vq_then_ret ?_)))))
   refine vq_ret3 st (.inl rfl) results35 (.tmp rfl) (.tmp rfl) (by exact .cell 2 rfl rfl isAgg29 sizeOf29) ?_
   refine ⟨_, rfl, ?_⟩
   refine ⟨st.chg, .inl ⟨hsc, ?_⟩⟩
   rw [he]; rfl
  ·intro hc23
   try simp only [dn] at hc23
   have hsc : s.length ≤ 65536 ∧ (front s).2 = some (ru, pl) := by
    unfold scanRes at hT
    split at hT
    ·simp only [Prod.mk.injEq] at hT; omega
    ·rename_i hl
     split at hT
     ·simp only [Prod.mk.injEq] at hT; omega
     ·rename_i hf; simp only [Prod.mk.injEq] at hT
      obtain ⟨-, -, rfl, rfl⟩ := hT
      exact ⟨by omega, hf⟩
   refine vc_code_skip (vq_block (vq_then (vk2 4 7 (vc_seq ?_))))
   refine vc_draw Tryz.mixed [(0, true), (1, true), (2, true), (3, true), (4, true), (5, false)] (fun w => St _ _ [.blk b7 (.cells [.int .i64 (pl : Int), .int .i64 (ru : Int)].toArray 29 (0, 0))] w) st.dr (by kernel_rfl) (by repeat (first | exact okQ_noPan | exact okQ_body | exact okQ_bodyS | refine okQ_then ?_ | refine okQ_block ?_)) rfl (by kernel_rfl) ?_
   intro w cd; replace st := st.call0 cd; clear cd
   have hS : St _ _ [.blk b7 (.cells [.int .i64 (pl : Int), .int .i64 (ru : Int)].toArray 29 (0, 0))] w := st.dr
   refine pf0 hS underlying29 sizeOf3 ?_
   refine pld hS 0 isAgg3 ?_
   refine vp_take rfl rfl rfl hS (fun w st => y_bld (.agg #[_, _]) [(0, _), (1, _)] rfl (fun w => by simp [Instr.build, go_sem] <;> repeat' constructor)) ?_
   iterate 2 refine vp_take rfl rfl rfl hS (fun w st => y_as rfl) ?_
   refine vp_do rfl (e_sts (vs := [_, _]) st 2 rfl rfl rfl rfl rfl sizeOf29 rfl rfl (by (right; assumption)) ?_)
   intro w st; dsimp only [setNth, wr] at st
   refine vp_next st.dr ?_; intro hS
   refine vp_end (vq_then (vk3 2 3 4 (vc_ret ?_)))
   refine vq_ret3 st (.inl rfl) results35 (.tmp rfl) (.tmp rfl) (by exact .cell 2 rfl rfl isAgg29 sizeOf29) ?_
   refine ⟨_, rfl, ?_⟩
   exact ⟨st.chg, .inr (.inl ⟨hsc.1, ru, pl, hsc.2, rfl⟩)⟩

end Go.Proofs.YtnmhlpnapgojjaaGreatDoor.Pq


namespace Go.Proofs.YtnmhlpnapgojjaaGreatDoor.Pq
open Go.RowKit Sx LexS ParS _root_.Go.Proofs.Tryz
abbrev pg00 : List Value := [.slice none 0 0, .slice none 0 0, .slice none 0 0]

set_option maxHeartbeats 1000000 in
theorem parse_catch (b2 b3 b4 p ru : Nat) (e : Int) (w : World) (h2 : w.heap[b2]? = some (.cells pg00.toArray 26 (0, 0))) (h3 : w.heap[b3]? = some (.cells [.int .i64 e].toArray 27 (0, 0))) (h4 : w.heap[b4]? = some (.cells [.int .i64 0, .int .i64 0].toArray 29 (0, 0)))
    (n1 : b2 ≠ b3) (n2 : b2 ≠ b4) (n3 : b3 ≠ b4) : DefCatch Tryz.prog 36 [.pointer (some ⟨b2, 0, none⟩), .pointer (some ⟨b3, 0, none⟩), .pointer (some ⟨b4, 0, none⟩)].toArray (.iface 75 (.agg #[.int .i64 (p : Int), .int .i64 (ru : Int)])) w
  (fun w' => w'.heap[b2]? = some (.cells pg00.toArray 26 (0, 0)) ∧ w'.heap[b3]? = some (.cells [.int .i64 30].toArray 27 (0, 0)) ∧ w'.heap[b4]? = some (.cells [.int .i64 (p : Int), .int .i64 (ru : Int)].toArray 29 (0, 0)) ∧ Chg [b2, b3, b4] w w') := by
 refine callsD_of_wpS func36 rfl fun c₀ cs hu => ?_
 have st := St.of3 [b2, b3, b4] h2 h3 h4 n1 n2 n3
 apply wpS_seq
 apply wpS_region
 simp [wpOpsS, go_sem, recoverD, hu, ntmps36, Exit.thenS]
 apply wpS_seq
 apply wpS_region
 simp [wpOpsS, go_sem, Exit.thenS]
 refine wpS_cond (t := true) (by simp [Act.eval, Array.replicate]) ?_
 simp only [if_true]
 refine wpS_of_wp ?_
 refine wp_of_vc (n := (11, [])) (kn := [(0, .pointer (some ⟨b2, 0, none⟩)), (1, .pointer (some ⟨b3, 0, none⟩)), (2, .pointer (some ⟨b4, 0, none⟩)), (3, .iface 75 (.agg #[.int .i64 (p : Int), .int .i64 (ru : Int)]))]) (K.of (by rfl) ?_) ?_
 ·intro i v hv
  simp only [find] at hv
  repeat' split at hv
  all_goals first | (rename_i hh; have hh' := Nat.eq_of_beq_eq_true hh; subst hh'; cases hv; rfl) | simp at hv
 refine vd_draw Tryz.mixed (.take 0 (.take 1 (.two 2 4 (.take 3 (.one 4 (.one 5 (.one 6 .done)))) (.two 2 5 (.take 3 (.one 5 (.one 6 .done))) (.one 2 (.take 3 (.one 6 .done))))))) (fun w => St _ _ [] w) st.dr (by kernel_rfl) (by repeat (first | exact okQ_noPan | exact okQ_body | exact okQ_bodyS | refine okQ_then ?_ | refine okQ_block ?_)) rfl (by kernel_rfl) ?_
 intro w cd; replace st := st.call0 cd; clear cd
 have hS : St _ _ [] w := st.dr
 refine vd_take rfl rfl rfl hS (fun w st => y_bld (.agg #[_, _, _]) [] rfl (fun w => by simp [Instr.build, go_sem] <;> repeat' constructor)) ?_
 refine dm hS ?_
 refine vd_two rfl rfl ?_ ?_
 ·refine (e_run rfl rfl (y_ta rfl underlying75) ?_)
  refine vd_next st.dr ?_; intro hS
  refine vd_take rfl rfl rfl hS (fun w st => y_fldA (vs := [_, _]) rfl underlying75 rfl rfl isAgg29 sizeOf29 rfl) ?_
  refine vd_do rfl (e_sts (vs := [_, _, _]) st 0 rfl rfl rfl rfl rfl sizeOf26 rfl rfl (by (left; simp)) ?_)
  intro w st; dsimp only [setNth, wr] at st
  refine vd_next st.dr ?_; intro hS
  refine vd_do rfl (e_st st 1 rfl rfl rfl rfl sizeOf27 rfl rfl (by (left; simp)) ?_)
  intro w st; dsimp only [setNth, wr] at st
  refine vd_next st.dr ?_; intro hS
  refine vd_do rfl (e_sts (vs := [_, _]) st 2 rfl rfl rfl rfl rfl sizeOf29 rfl rfl (by (left; simp)) ?_)
  intro w st; dsimp only [setNth, wr] at st
  refine vd_next st.dr ?_; intro hS
  refine vd_end ?_
  intro a ha
  exact ⟨ha.defers, _, rfl, .tuple #[], by simp [results, results36], ⟨_, rfl⟩, rfl, by first | exact ⟨st.res (i := 0) rfl, st.res (i := 1) rfl, st.res (i := 2) rfl, st.chg⟩⟩
 ·refine (e_sts (vs := [_, _, _]) st 0 rfl rfl rfl rfl rfl sizeOf26 rfl rfl (by (left; simp)) ?_)
  intro w st; dsimp only [setNth, wr] at st
  refine vd_next st.dr ?_; intro hS
  refine vd_two rfl rfl ?_ ?_
  ·refine (e_run rfl rfl (y_ta rfl underlying75) ?_)
   refine vd_next st.dr ?_; intro hS
   refine vd_take rfl rfl rfl hS (fun w st => y_fldA (vs := [_, _]) rfl underlying75 rfl rfl isAgg29 sizeOf29 rfl) ?_
   refine vd_do rfl (e_st st 1 rfl rfl rfl rfl sizeOf27 rfl rfl (by (left; simp)) ?_)
   intro w st; dsimp only [setNth, wr] at st
   refine vd_next st.dr ?_; intro hS
   refine vd_do rfl (e_sts (vs := [_, _]) st 2 rfl rfl rfl rfl rfl sizeOf29 rfl rfl (by (left; simp)) ?_)
   intro w st; dsimp only [setNth, wr] at st
   refine vd_next st.dr ?_; intro hS
   refine vd_end ?_
   intro a ha
   exact ⟨ha.defers, _, rfl, .tuple #[], by simp [results, results36], ⟨_, rfl⟩, rfl, by first | exact ⟨st.res (i := 0) rfl, st.res (i := 1) rfl, st.res (i := 2) rfl, st.chg⟩⟩
  ·refine (e_st st 1 rfl rfl rfl rfl sizeOf27 rfl rfl (by (left; simp)) ?_)
   intro w st; dsimp only [setNth, wr] at st
   refine vd_next st.dr ?_; intro hS
   refine vd_do rfl (e_run rfl rfl (y_ta rfl underlying75) ?_)
   refine vd_next st.dr ?_; intro hS
   refine vd_take rfl rfl rfl hS (fun w st => y_fldA (vs := [_, _]) rfl underlying75 rfl rfl isAgg29 sizeOf29 rfl) ?_
   refine vd_do rfl (e_sts (vs := [_, _]) st 2 rfl rfl rfl rfl rfl sizeOf29 rfl rfl (by (left; simp)) ?_)
   intro w st; dsimp only [setNth, wr] at st
   refine vd_next st.dr ?_; intro hS
   refine vd_end ?_
   intro a ha
   exact ⟨ha.defers, _, rfl, .tuple #[], by simp [results, results36], ⟨_, rfl⟩, rfl, by first | exact ⟨st.res (i := 0) rfl, st.res (i := 1) rfl, st.res (i := 2) rfl, st.chg⟩⟩

set_option maxHeartbeats 1000000 in
theorem expr_catch (b2 b3 b4 p ru : Nat) (e : Int) (w : World) (h2 : w.heap[b2]? = some (.cells ex00.toArray 42 (0, 0))) (h3 : w.heap[b3]? = some (.cells [.int .i64 e].toArray 27 (0, 0))) (h4 : w.heap[b4]? = some (.cells [.int .i64 0, .int .i64 0].toArray 29 (0, 0)))
    (n1 : b2 ≠ b3) (n2 : b2 ≠ b4) (n3 : b3 ≠ b4) : DefCatch Tryz.prog 48 [.pointer (some ⟨b2, 0, none⟩), .pointer (some ⟨b3, 0, none⟩), .pointer (some ⟨b4, 0, none⟩)].toArray (.iface 75 (.agg #[.int .i64 (p : Int), .int .i64 (ru : Int)])) w
  (fun w' => w'.heap[b2]? = some (.cells ex00.toArray 42 (0, 0)) ∧ w'.heap[b3]? = some (.cells [.int .i64 30].toArray 27 (0, 0)) ∧ w'.heap[b4]? = some (.cells [.int .i64 (p : Int), .int .i64 (ru : Int)].toArray 29 (0, 0)) ∧ Chg [b2, b3, b4] w w') := by
 refine callsD_of_wpS func48 rfl fun c₀ cs hu => ?_
 have st := St.of3 [b2, b3, b4] h2 h3 h4 n1 n2 n3
 apply wpS_seq
 apply wpS_region
 simp [wpOpsS, go_sem, recoverD, hu, ntmps48, Exit.thenS]
 apply wpS_seq
 apply wpS_region
 simp [wpOpsS, go_sem, Exit.thenS]
 refine wpS_cond (t := true) (by simp [Act.eval, Array.replicate]) ?_
 simp only [if_true]
 refine wpS_of_wp ?_
 refine wp_of_vc (n := (11, [])) (kn := [(0, .pointer (some ⟨b2, 0, none⟩)), (1, .pointer (some ⟨b3, 0, none⟩)), (2, .pointer (some ⟨b4, 0, none⟩)), (3, .iface 75 (.agg #[.int .i64 (p : Int), .int .i64 (ru : Int)]))]) (K.of (by rfl) ?_) ?_
 ·intro i v hv
  simp only [find] at hv
  repeat' split at hv
  all_goals first | (rename_i hh; have hh' := Nat.eq_of_beq_eq_true hh; subst hh'; cases hv; rfl) | simp at hv
 refine vd_draw Tryz.mixed (.take 0 (.take 1 (.two 2 4 (.take 3 (.one 4 (.one 5 (.one 6 .done)))) (.two 2 5 (.take 3 (.one 5 (.one 6 .done))) (.one 2 (.take 3 (.one 6 .done))))))) (fun w => St _ _ [] w) st.dr (by kernel_rfl) (by repeat (first | exact okQ_noPan | exact okQ_body | exact okQ_bodyS | refine okQ_then ?_ | refine okQ_block ?_)) rfl (by kernel_rfl) ?_
 intro w cd; replace st := st.call0 cd; clear cd
 have hS : St _ _ [] w := st.dr
 refine vd_take rfl rfl rfl hS (fun w st => y_bld (.agg #[_, _, _, _, _, _]) [] rfl (fun w => by simp [Instr.build, go_sem] <;> repeat' constructor)) ?_
 refine dm hS ?_
 refine vd_two rfl rfl ?_ ?_
 ·refine (e_run rfl rfl (y_ta rfl underlying75) ?_)
  refine vd_next st.dr ?_; intro hS
  refine vd_take rfl rfl rfl hS (fun w st => y_fldA (vs := [_, _]) rfl underlying75 rfl rfl isAgg29 sizeOf29 rfl) ?_
  refine vd_do rfl (e_sts (vs := [_, _, _, _, _, _]) st 0 rfl rfl rfl rfl rfl sizeOf42 rfl rfl (by (left; simp)) ?_)
  intro w st; dsimp only [setNth, wr] at st
  refine vd_next st.dr ?_; intro hS
  refine vd_do rfl (e_st st 1 rfl rfl rfl rfl sizeOf27 rfl rfl (by (left; simp)) ?_)
  intro w st; dsimp only [setNth, wr] at st
  refine vd_next st.dr ?_; intro hS
  refine vd_do rfl (e_sts (vs := [_, _]) st 2 rfl rfl rfl rfl rfl sizeOf29 rfl rfl (by (left; simp)) ?_)
  intro w st; dsimp only [setNth, wr] at st
  refine vd_next st.dr ?_; intro hS
  refine vd_end ?_
  intro a ha
  exact ⟨ha.defers, _, rfl, .tuple #[], by simp [results, results48], ⟨_, rfl⟩, rfl, by first | exact ⟨st.res (i := 0) rfl, st.res (i := 1) rfl, st.res (i := 2) rfl, st.chg⟩⟩
 ·refine (e_sts (vs := [_, _, _, _, _, _]) st 0 rfl rfl rfl rfl rfl sizeOf42 rfl rfl (by (left; simp)) ?_)
  intro w st; dsimp only [setNth, wr] at st
  refine vd_next st.dr ?_; intro hS
  refine vd_two rfl rfl ?_ ?_
  ·refine (e_run rfl rfl (y_ta rfl underlying75) ?_)
   refine vd_next st.dr ?_; intro hS
   refine vd_take rfl rfl rfl hS (fun w st => y_fldA (vs := [_, _]) rfl underlying75 rfl rfl isAgg29 sizeOf29 rfl) ?_
   refine vd_do rfl (e_st st 1 rfl rfl rfl rfl sizeOf27 rfl rfl (by (left; simp)) ?_)
   intro w st; dsimp only [setNth, wr] at st
   refine vd_next st.dr ?_; intro hS
   refine vd_do rfl (e_sts (vs := [_, _]) st 2 rfl rfl rfl rfl rfl sizeOf29 rfl rfl (by (left; simp)) ?_)
   intro w st; dsimp only [setNth, wr] at st
   refine vd_next st.dr ?_; intro hS
   refine vd_end ?_
   intro a ha
   exact ⟨ha.defers, _, rfl, .tuple #[], by simp [results, results48], ⟨_, rfl⟩, rfl, by first | exact ⟨st.res (i := 0) rfl, st.res (i := 1) rfl, st.res (i := 2) rfl, st.chg⟩⟩
  ·refine (e_st st 1 rfl rfl rfl rfl sizeOf27 rfl rfl (by (left; simp)) ?_)
   intro w st; dsimp only [setNth, wr] at st
   refine vd_next st.dr ?_; intro hS
   refine vd_do rfl (e_run rfl rfl (y_ta rfl underlying75) ?_)
   refine vd_next st.dr ?_; intro hS
   refine vd_take rfl rfl rfl hS (fun w st => y_fldA (vs := [_, _]) rfl underlying75 rfl rfl isAgg29 sizeOf29 rfl) ?_
   refine vd_do rfl (e_sts (vs := [_, _]) st 2 rfl rfl rfl rfl rfl sizeOf29 rfl rfl (by (left; simp)) ?_)
   intro w st; dsimp only [setNth, wr] at st
   refine vd_next st.dr ?_; intro hS
   refine vd_end ?_
   intro a ha
   exact ⟨ha.defers, _, rfl, .tuple #[], by simp [results, results48], ⟨_, rfl⟩, rfl, by first | exact ⟨st.res (i := 0) rfl, st.res (i := 1) rfl, st.res (i := 2) rfl, st.chg⟩⟩

end Go.Proofs.YtnmhlpnapgojjaaGreatDoor.Pq


namespace Go.Proofs.YtnmhlpnapgojjaaGreatDoor.Pq
open Go.RowKit Sx LexS ParS _root_.Go.Proofs.Tryz

theorem parse_idle (args : List Value) (h3 : args.length = 3) (w : World) : DefIdle Tryz.prog 36 args.toArray w (fun w' => w' = w) := by
 refine callsD_of_wpS func36 rfl fun c₀ cs hu => ?_
 obtain ⟨x, y, z, rfl⟩ : ∃ x y z, args = [x, y, z] := by
  match args, h3 with
  | [x, y, z], _ => exact ⟨x, y, z, rfl⟩
 apply wpS_seq
 apply wpS_region
 simp [wpOpsS, go_sem, recoverD, hu, ntmps36, Exit.thenS]
 apply wpS_seq
 apply wpS_region
 simp [wpOpsS, go_sem, Exit.thenS]
 refine wpS_cond (t := false) (by simp [Act.eval, Array.replicate]) ?_
 simp only [Bool.false_eq_true, if_false]
 refine wpS_of_wp (wp_skip ?_)
 cases c₀
 simp_all [bodyPostS, results, results36]

theorem expr_idle (args : List Value) (h3 : args.length = 3) (w : World) : DefIdle Tryz.prog 48 args.toArray w (fun w' => w' = w) := by
 refine callsD_of_wpS func48 rfl fun c₀ cs hu => ?_
 obtain ⟨x, y, z, rfl⟩ : ∃ x y z, args = [x, y, z] := by
  match args, h3 with
  | [x, y, z], _ => exact ⟨x, y, z, rfl⟩
 apply wpS_seq
 apply wpS_region
 simp [wpOpsS, go_sem, recoverD, hu, ntmps48, Exit.thenS]
 apply wpS_seq
 apply wpS_region
 simp [wpOpsS, go_sem, Exit.thenS]
 refine wpS_cond (t := false) (by simp [Act.eval, Array.replicate]) ?_
 simp only [Bool.false_eq_true, if_false]
 refine wpS_of_wp (wp_skip ?_)
 cases c₀
 simp_all [bodyPostS, results, results48]

theorem _root_.Sx.St.push2 {w w' w0 : World} {M : List Nat} {hs : List Res} (st : St w0 M hs w) (c : Chg [] w w') {r q : Res} (hr : r.holds w0.heap.size w') (hq : q.holds w0.heap.size w') (hat : ∀ k ∈ r.at?, w.heap.size ≤ k) (hat' : ∀ k ∈ q.at?, w.heap.size ≤ k) (hd : ∀ k ∈ r.at?, k ∉ q.at?) : St w0 M (r :: q :: hs) w' := by
 have st1 := st.pushR c hq hat'
 refine ⟨st1.chg, List.pairwise_cons.2 ⟨fun x hx k hk hk' => ?_, st1.nodup⟩, fun x hx => ?_⟩
 ·rcases List.mem_cons.1 hx with rfl | h
  ·exact hd k hk hk'
  ·exact absurd (st.lt h hk') (by have := hat k hk; omega)
 ·rcases List.mem_cons.1 hx with rfl | h
  ·exact hr
  ·exact st1.here x h
theorem _root_.Sx.St.pnew {s : List UInt8} {c : PCtx} {w w' w0 : World} {M : List Nat} {hs : List Res} (st : St w0 M hs w) (ch : Chg [] w w') (h : PNew s w.heap.size c w') :
    St w0 M (.blk c.pb (.cells (pcell c c.ts).toArray c.T (0, 0)) :: .own (.slice c.oa c.ts.length c.cap) 118 4 c.ts.length (toksL c.ts) :: hs) w' :=
 st.push2 ch h.at_ (ownsRow_base h.own st.chg.size) (by simpa [Res.at?] using h.le) (fun k hk => (World.ownsRow.lt h.own k (by simpa [Res.at?] using hk)).1)
  (fun k hk => by
    simp only [Res.at?, List.mem_singleton] at hk
    subst hk
    intro hk'
    simp only [Res.at?, obk_own] at hk'
    exact absurd (h.lt _ hk') (Nat.lt_irrefl _))

/-- what 'Parse' leaves behind -/
def ParsePost (s : List UInt8) (w : World) (v : Value) (w' : World) : Prop := Chg [] w w' ∧ ∃ vp, HP w (parseRes s).1 vp w' ∧ v = .tuple #[vp, .int .i64 ((parseRes s).2.1 : Int), .agg #[.int .i64 ((parseRes s).2.2.1 : Int), .int .i64 ((parseRes s).2.2.2 : Int)]]
/-- what 'Expr' leaves behind -/
def ExprPost (s : List UInt8) (w : World) (v : Value) (w' : World) : Prop := Chg [] w w' ∧ ∃ vx, HE w (exprRes s).1 vx w' ∧ v = .tuple #[vx, .int .i64 ((exprRes s).2.1 : Int), .agg #[.int .i64 ((exprRes s).2.2.1 : Int), .int .i64 ((exprRes s).2.2.2 : Int)]]
theorem hp_none (w0 : World) (w' : World) : HP w0 pg0 (.agg pg00.toArray) w' :=
 ⟨none, none, none, 0, 0, 0, [], rfl, ⟨none, 0, none, 0, none, 0, [], [], [], rfl, ⟨World.ownsRow_nil _ _ _ _, rfl⟩, ⟨World.ownsRow_nil _ _ _ _, rfl⟩, ⟨[], [], World.ownsRow_nil _ _ _ _, rfl, rfl, rfl⟩, rfl⟩, Nw.nil⟩
theorem he_none (w0 : World) (w' : World) : HE w0 ex0 (.agg ex00.toArray) w' := ⟨none, 0, [], rfl, exr_nil, Nw.nil⟩
theorem _root_.Sx.holds_pg {tE tS tD tT base : Nat} {w : World} {q : Pg} {l : List Value} {S : List Nat} (h : PgS tE tS tD tT w q l S) : (Res.tree S fun w => PgS tE tS tD tT w q l S).holds base w := holds_of h h.lt (fun a b h hk => h.kept hk)

/-- a refusal is caught -/
theorem parse_pan {s : List UInt8} {w0 w : World} {b2 b3 b4 : Nat} {f : Flt} {kn : Kn} (h2 : w.heap[b2]? = some (.cells pg00.toArray 26 (0, 0))) (h3 : w.heap[b3]? = some (.cells [.int .i64 0].toArray 27 (0, 0))) (h4 : w.heap[b4]? = some (.cells [.int .i64 0, .int .i64 0].toArray 29 (0, 0)))
    (n1 : b2 ≠ b3) (n2 : b2 ≠ b4) (n3 : b3 ≠ b4) (l2 : w0.heap.size ≤ b2) (l3 : w0.heap.size ≤ b3) (l4 : w0.heap.size ≤ b4) (ch : Chg [] w0 w) (hpr : parseRes s = (pg0, 30, f.1, f.2))
  (k2 : find kn 2 = some (.pointer (some ⟨b2, 0, none⟩))) (k3 : find kn 3 = some (.pointer (some ⟨b3, 0, none⟩))) (k4 : find kn 4 = some (.pointer (some ⟨b4, 0, none⟩))) :
  PanK (21, [⟨.fn (.func 36) (List.toArray [.pointer (some ⟨b2, 0, none⟩), .pointer (some ⟨b3, 0, none⟩), .pointer (some ⟨b4, 0, none⟩)]), #[]⟩]) kn (bodyPostD Tryz.prog Tryz.f10 fun e w' => ∃ v, e = .returned v ∧ ParsePost s w0 v w') (.iface 75 (.agg #[.int .i64 (f.1 : Int), .int .i64 (f.2 : Int)])) w := by
 refine pan_leave call36 (parse_catch b2 b3 b4 f.1 f.2 _ w h2 h3 h4 n1 n2 n3) (fun w2 hc => ?_)
 obtain ⟨g2, g3, g4, c2⟩ := hc
 have st2 := St.of3 [] g2 g3 g4 n1 n2 n3
 refine ⟨_, results3 st2 results10 (.cell 0 k2 rfl isAgg26 sizeOf26) (.cell1 1 k3 rfl isAgg27 rfl) (.cell 2 k4 rfl isAgg29 sizeOf29), _, rfl, ch.trans' c2 (by simp [l2, l3, l4]), ?_⟩
 rw [hpr]
 exact ⟨_, hp_none _ _, rfl⟩

set_option maxHeartbeats 1000000 in
theorem parse_any (s : List UInt8) (w : World) (hsg : SigAt 0 w) : Ret Tryz.prog 10 [str s] w (ParsePost s w) := by
 refine retd_of [_] func10 rfl ntmps10 rfl ?_
 have st := St.init w []
 obtain ⟨w0, rfl⟩ : ∃ w0, w0 = w := ⟨_, rfl⟩
 have h0 : 0 < w0.heap.size := World.block_lt_of_cell? w0 _ (hsg 0 (by omega)).1
 refine vc_seq (vc_region ?_)
 refine vc_e (e_al (l := [_, _, _]) st rfl rfl zeroValue26 rfl ?_)
 intro b2 w hb2 st
 refine vc_e (e_al (l := [_]) st rfl rfl zeroValue27 rfl ?_)
 intro b3 w hb3 st
 refine vc_e (e_al (l := [_, _]) st rfl rfl zeroValue29 rfl ?_)
 intro b4 w hb4 st
 refine vc_end (vq_then (vk4 0 2 3 4 (vc_seq (vc_region ?_))))
 refine ym ?_
 have n43 := st.bne 0 1 (by decide) rfl rfl
 have n42 := st.bne 0 2 (by decide) rfl rfl
 have n32 := st.bne 1 2 (by decide) rfl rfl
 have n34 := Ne.symm n43
 have n24 := Ne.symm n42
 have n23 := Ne.symm n32
 have hw1 := st.chg.size
 refine vc_e (e_call [_] rfl rfl call35 rfl (begun_any s _ (hsg.kept st.chg (by simp))) ?_)
 rintro _ w ⟨cw, hb⟩
 rcases hb with ⟨hl, rfl⟩ | ⟨hl, ru, pl, hfr, rfl⟩ | ⟨hl, hfr, c, hn, rfl⟩
 ·replace st := st.call0 cw
  have hpr : parseRes s = (pg0, 4, 0, 0) := by simp [parseRes, hl]
  refine ym ?_
  iterate 3 refine vy (y_ext rfl rfl) ?_
  refine ya ?_
  refine vc_e (e_st st 1 rfl rfl rfl rfl sizeOf27 rfl rfl (by (right; assumption)) ?_)
  intro w st; dsimp only [setNth, wr] at st
  refine vc_e (e_sts (vs := [_, _]) st 0 rfl rfl rfl rfl rfl sizeOf29 rfl rfl (by (right; assumption)) ?_)
  intro w st; dsimp only [setNth, wr] at st
  refine vc_end (vq_then (vk4 2 3 4 5 (vc_seq (vc_seq (vc_region ?_)))))
  refine yl st 1 isAgg27 ?_
  refine vy (y_nei rfl rfl) ?_
  refine vc_end (vq_then (vk5 2 3 4 5 13 ?_))
  refine vc_ifs rfl ?_ ?_
  ·intro hc13
   try simp only [dn] at hc13
   refine vc_seq ?_
   refine vc_noPan ?_
   refine vc_draw Tryz.mixed [(0, true), (1, true), (2, true), (3, false), (4, false), (5, false)] (fun w => St _ _ _ w) st (by kernel_rfl) (by repeat (first | exact okQ_noPan | exact okQ_body | exact okQ_bodyS | refine okQ_then ?_ | refine okQ_block ?_)) rfl (by kernel_rfl) ?_
   intro w cd; replace st := st.call0 cd; clear cd
   have hS := st
   refine vp_take rfl rfl rfl hS (fun w st => y_lda (vs := [_, _, _]) st 2 rfl isAgg26 sizeOf26 rfl rfl) ?_
   refine pld hS 1 isAgg27 ?_
   refine vp_take rfl rfl rfl hS (fun w st => y_lda (vs := [_, _]) st 0 rfl isAgg29 sizeOf29 rfl rfl) ?_
   refine vp_do rfl (e_sts (vs := [_, _, _]) st 2 rfl rfl rfl rfl rfl sizeOf26 rfl rfl (by (right; assumption)) ?_)
   intro w st; dsimp only [setNth, wr] at st
   refine vp_next (by exact st) ?_; intro hS
   refine vp_do rfl (e_st st 1 rfl rfl rfl rfl sizeOf27 rfl rfl (by (right; assumption)) ?_)
   intro w st; dsimp only [setNth, wr] at st
   refine vp_next (by exact st) ?_; intro hS
   refine vp_do rfl (e_sts (vs := [_, _]) st 0 rfl rfl rfl rfl rfl sizeOf29 rfl rfl (by (right; assumption)) ?_)
   intro w st; dsimp only [setNth, wr] at st
   refine vp_next (by exact st) ?_; intro hS
   refine vp_end ?_
   refine vq_noPan ?_
   refine vq_then (vk3 2 3 4 (vc_ret (vq_then_ret ?_)))
   refine vqd_post (.inl rfl) (results3 st results10 (.cell 2 rfl rfl isAgg26 sizeOf26) (.cell1 1 rfl rfl isAgg27 rfl) (.cell 0 rfl rfl isAgg29 sizeOf29)) ?_
   refine ⟨_, rfl, st.chg, ?_⟩
   rw [hpr]
   exact ⟨_, hp_none _ _, rfl⟩
  ·intro hc13
   exact absurd hc13 (by decide)
 ·replace st := st.call0 cw
  have hpr : parseRes s = (pg0, 30, pl, 1) := by simp [parseRes, Nat.not_lt.2 hl, hfr]
  refine ym ?_
  iterate 3 refine vy (y_ext rfl rfl) ?_
  refine ya ?_
  refine vc_e (e_st st 1 rfl rfl rfl rfl sizeOf27 rfl rfl (by (right; assumption)) ?_)
  intro w st; dsimp only [setNth, wr] at st
  refine vc_e (e_sts (vs := [_, _]) st 0 rfl rfl rfl rfl rfl sizeOf29 rfl rfl (by (right; assumption)) ?_)
  intro w st; dsimp only [setNth, wr] at st
  refine vc_end (vq_then (vk4 2 3 4 5 (vc_seq (vc_seq (vc_region ?_)))))
  refine yl st 1 isAgg27 ?_
  refine vy (y_nei rfl rfl) ?_
  refine vc_end (vq_then (vk5 2 3 4 5 13 ?_))
  refine vc_ifs rfl ?_ ?_
  ·intro hc13
   try simp only [dn] at hc13
   refine vc_seq ?_
   refine vc_noPan ?_
   refine vc_draw Tryz.mixed [(0, true), (1, true), (2, true), (3, false), (4, false), (5, false)] (fun w => St _ _ _ w) st (by kernel_rfl) (by repeat (first | exact okQ_noPan | exact okQ_body | exact okQ_bodyS | refine okQ_then ?_ | refine okQ_block ?_)) rfl (by kernel_rfl) ?_
   intro w cd; replace st := st.call0 cd; clear cd
   have hS := st
   refine vp_take rfl rfl rfl hS (fun w st => y_lda (vs := [_, _, _]) st 2 rfl isAgg26 sizeOf26 rfl rfl) ?_
   refine pld hS 1 isAgg27 ?_
   refine vp_take rfl rfl rfl hS (fun w st => y_lda (vs := [_, _]) st 0 rfl isAgg29 sizeOf29 rfl rfl) ?_
   refine vp_do rfl (e_sts (vs := [_, _, _]) st 2 rfl rfl rfl rfl rfl sizeOf26 rfl rfl (by (right; assumption)) ?_)
   intro w st; dsimp only [setNth, wr] at st
   refine vp_next (by exact st) ?_; intro hS
   refine vp_do rfl (e_st st 1 rfl rfl rfl rfl sizeOf27 rfl rfl (by (right; assumption)) ?_)
   intro w st; dsimp only [setNth, wr] at st
   refine vp_next (by exact st) ?_; intro hS
   refine vp_do rfl (e_sts (vs := [_, _]) st 0 rfl rfl rfl rfl rfl sizeOf29 rfl rfl (by (right; assumption)) ?_)
   intro w st; dsimp only [setNth, wr] at st
   refine vp_next (by exact st) ?_; intro hS
   refine vp_end ?_
   refine vq_noPan ?_
   refine vq_then (vk3 2 3 4 (vc_ret (vq_then_ret ?_)))
   refine vqd_post (.inl rfl) (results3 st results10 (.cell 2 rfl rfl isAgg26 sizeOf26) (.cell1 1 rfl rfl isAgg27 rfl) (.cell 0 rfl rfl isAgg29 sizeOf29)) ?_
   refine ⟨_, rfl, st.chg, ?_⟩
   rw [hpr]
   exact ⟨_, hp_none _ _, rfl⟩
  ·intro hc13
   exact absurd hc13 (by decide)
 ·replace st := st.pnew cw hn
  have hpr : parseRes s = match progP c.e (c.ts.length + 1) c.ts with | .error f => (pg0, 30, f.1, f.2) | .ok p => (p, 0, 0, 0) := by
   unfold parseRes; rw [if_neg (by omega), hfr, hn.e, hn.ts]
   try rfl
  refine ym ?_
  iterate 3 refine vy (y_ext rfl rfl) ?_
  refine ya ?_
  refine vc_e (e_st st 3 rfl rfl rfl rfl sizeOf27 rfl rfl (by (right; assumption)) ?_)
  intro w st; dsimp only [setNth, wr] at st
  refine vc_e (e_sts (vs := [_, _]) st 2 rfl rfl rfl rfl rfl sizeOf29 rfl rfl (by (right; assumption)) ?_)
  intro w st; dsimp only [setNth, wr] at st
  refine vc_end (vq_then (vk4 2 3 4 5 (vc_seq (vc_seq (vc_region ?_)))))
  refine yl st 3 isAgg27 ?_
  refine vy (y_nei rfl rfl) ?_
  refine vc_end (vq_then (vk5 2 3 4 5 13 ?_))
  refine vc_ifs rfl ?_ ?_
  ·intro hc13
   exact absurd hc13 (by decide)
  ·intro hc13
   try simp only [dn] at hc13
   refine vc_code_skip (vq_then (vk4 2 3 4 5 (vc_seq (vc_region ?_))))
   refine vy (y_mf [] [_, _, _] rfl rfl) ?_
   refine vc_e (e_deferV rfl rfl rfl ?_)
   refine vc_end (vq_then (vk4 2 3 4 5 (vc_seq (vc_region ?_))))
   refine ym ?_
   refine vc_e (e_callk [_] rfl rfl call37 rfl (pprog_any c hn.R hn.g c.ts (List.suffix_refl _) _ (hn.ok (st.res (i := 1) rfl) (hsg.kept st.chg (by simp)) (st.res (i := 0) rfl) (Nat.lt_of_lt_of_le h0 hw1)) (st.res (i := 0) rfl) (c.ts.length + 1) (by omega)) (by
       rintro _ w' ⟨f, hf, rfl, ch⟩
       obtain ⟨o', ho'⟩ : ∃ o', w'.heap[c.pb]? = some o' := ⟨_, Array.getElem?_eq_getElem (Nat.lt_of_lt_of_le (Array.getElem?_eq_some_iff.1 (st.res (i := 0) rfl)).1 ch.size)⟩
       have st' := St.prs (b := c.pb) st 0 rfl ch (.inr (Nat.le_trans hw1 hn.le)) ho'
       dsimp only [setNth] at st'
       rw [show refV c f = .iface 75 (.agg #[.int .i64 (f.1 : Int), .int .i64 (f.2 : Int)]) by rw [refV, hn.R]]
       exact parse_pan (st'.res (i := 4) rfl) (st'.res (i := 3) rfl) (st'.res (i := 2) rfl) n23 n24 n34 hb2 hb3 hb4 st'.chg (by rw [hpr, hf]) rfl rfl rfl) ?_)
   rintro _ w ⟨q, hq, cw, os, ol, ot, cs, cl, ct, Sq, rfl, hT, hN⟩
   have hw2 := st.chg.size
   obtain ⟨o', ho'⟩ : ∃ o', w.heap[c.pb]? = some o' := ⟨_, Array.getElem?_eq_getElem (Nat.lt_of_lt_of_le (Array.getElem?_eq_some_iff.1 (st.res (i := 0) rfl)).1 cw.size)⟩
   replace st := St.prsT (b := c.pb) st 0 rfl cw (.inr (Nat.le_trans hw1 hn.le)) ho' (holds_pg hT) hN.2
   dsimp only [setNth] at st
   refine vy (y_bld (.agg #[_, _]) [] rfl (fun w => by simp [Instr.build, go_sem] <;> repeat' constructor)) ?_
   refine vc_e (e_sts (vs := [_, _, _]) st 5 rfl rfl rfl rfl rfl sizeOf26 rfl rfl (by (right; assumption)) ?_)
   intro w st; dsimp only [setNth, wr] at st
   refine vc_e (e_st st 4 rfl rfl rfl rfl sizeOf27 rfl rfl (by (right; assumption)) ?_)
   intro w st; dsimp only [setNth, wr] at st
   refine vc_e (e_sts (vs := [_, _]) st 3 rfl rfl rfl rfl rfl sizeOf29 rfl rfl (by (right; assumption)) ?_)
   intro w st; dsimp only [setNth, wr] at st
   refine vc_end (vq_then (vk3 2 3 4 (vc_ret ?_)))
   refine vqd_ret (.inl rfl) call36 (parse_idle [.pointer (some ⟨b2, 0, none⟩), .pointer (some ⟨b3, 0, none⟩), .pointer (some ⟨b4, 0, none⟩)] rfl _) (fun w2 e2 => ?_)
   subst e2
   refine ⟨_, results3 st results10 (.cell 5 rfl rfl isAgg26 sizeOf26) (.cell1 4 rfl rfl isAgg27 rfl) (.cell 3 rfl rfl isAgg29 sizeOf29), _, rfl, st.chg, ?_⟩
   rw [hpr, hq]
   dsimp only
   exact ⟨_, ⟨os, ol, ot, cs, cl, ct, Sq, rfl, (st.res (i := 0) rfl).1, hN.le hw2⟩, rfl⟩

/-- a refusal is caught -/
theorem expr_pan {s : List UInt8} {w0 w : World} {b2 b3 b4 : Nat} {f : Flt} {kn : Kn} (h2 : w.heap[b2]? = some (.cells ex00.toArray 42 (0, 0))) (h3 : w.heap[b3]? = some (.cells [.int .i64 0].toArray 27 (0, 0))) (h4 : w.heap[b4]? = some (.cells [.int .i64 0, .int .i64 0].toArray 29 (0, 0)))
    (n1 : b2 ≠ b3) (n2 : b2 ≠ b4) (n3 : b3 ≠ b4) (l2 : w0.heap.size ≤ b2) (l3 : w0.heap.size ≤ b3) (l4 : w0.heap.size ≤ b4) (ch : Chg [] w0 w) (hpr : exprRes s = (ex0, 30, f.1, f.2))
  (k2 : find kn 2 = some (.pointer (some ⟨b2, 0, none⟩))) (k3 : find kn 3 = some (.pointer (some ⟨b3, 0, none⟩))) (k4 : find kn 4 = some (.pointer (some ⟨b4, 0, none⟩))) :
  PanK (35, [⟨.fn (.func 48) (List.toArray [.pointer (some ⟨b2, 0, none⟩), .pointer (some ⟨b3, 0, none⟩), .pointer (some ⟨b4, 0, none⟩)]), #[]⟩]) kn (bodyPostD Tryz.prog Tryz.f16 fun e w' => ∃ v, e = .returned v ∧ ExprPost s w0 v w') (.iface 75 (.agg #[.int .i64 (f.1 : Int), .int .i64 (f.2 : Int)])) w := by
 refine pan_leave call48 (expr_catch b2 b3 b4 f.1 f.2 _ w h2 h3 h4 n1 n2 n3) (fun w2 hc => ?_)
 obtain ⟨g2, g3, g4, c2⟩ := hc
 have st2 := St.of3 [] g2 g3 g4 n1 n2 n3
 refine ⟨_, results3 st2 results16 (.cell 0 k2 rfl isAgg42 sizeOf42) (.cell1 1 k3 rfl isAgg27 rfl) (.cell 2 k4 rfl isAgg29 sizeOf29), _, rfl, ch.trans' c2 (by simp [l2, l3, l4]), ?_⟩
 rw [hpr]
 exact ⟨_, he_none _ _, rfl⟩

set_option maxHeartbeats 1000000 in
theorem expr_any (s : List UInt8) (w : World) (hsg : SigAt 0 w) : Ret Tryz.prog 16 [str s] w (ExprPost s w) := by
 refine retd_of [_] func16 rfl ntmps16 rfl ?_
 have st := St.init w []
 obtain ⟨w0, rfl⟩ : ∃ w0, w0 = w := ⟨_, rfl⟩
 have h0 : 0 < w0.heap.size := World.block_lt_of_cell? w0 _ (hsg 0 (by omega)).1
 refine vc_seq (vc_region ?_)
 refine vc_e (e_al (l := [_, _, _, _, _, _]) st rfl rfl zeroValue42 rfl ?_)
 intro b2 w hb2 st
 refine vc_e (e_al (l := [_]) st rfl rfl zeroValue27 rfl ?_)
 intro b3 w hb3 st
 refine vc_e (e_al (l := [_, _]) st rfl rfl zeroValue29 rfl ?_)
 intro b4 w hb4 st
 refine vc_end (vq_then (vk4 0 2 3 4 (vc_seq (vc_region ?_))))
 refine ym ?_
 have n43 := st.bne 0 1 (by decide) rfl rfl
 have n42 := st.bne 0 2 (by decide) rfl rfl
 have n32 := st.bne 1 2 (by decide) rfl rfl
 have n34 := Ne.symm n43
 have n24 := Ne.symm n42
 have n23 := Ne.symm n32
 have hw1 := st.chg.size
 refine vc_e (e_call [_] rfl rfl call35 rfl (begun_any s _ (hsg.kept st.chg (by simp))) ?_)
 rintro _ w ⟨cw, hb⟩
 rcases hb with ⟨hl, rfl⟩ | ⟨hl, ru, pl, hfr, rfl⟩ | ⟨hl, hfr, c, hn, rfl⟩
 ·replace st := st.call0 cw
  have hpr : exprRes s = (ex0, 4, 0, 0) := by simp [exprRes, hl]
  refine ym ?_
  iterate 3 refine vy (y_ext rfl rfl) ?_
  refine ya ?_
  refine vc_e (e_st st 1 rfl rfl rfl rfl sizeOf27 rfl rfl (by (right; assumption)) ?_)
  intro w st; dsimp only [setNth, wr] at st
  refine vc_e (e_sts (vs := [_, _]) st 0 rfl rfl rfl rfl rfl sizeOf29 rfl rfl (by (right; assumption)) ?_)
  intro w st; dsimp only [setNth, wr] at st
  refine vc_end (vq_then (vk4 2 3 4 5 (vc_seq (vc_seq (vc_region ?_)))))
  refine yl st 1 isAgg27 ?_
  refine vy (y_nei rfl rfl) ?_
  refine vc_end (vq_then (vk5 2 3 4 5 14 ?_))
  refine vc_ifs rfl ?_ ?_
  ·intro hc14
   try simp only [dn] at hc14
   refine vc_seq ?_
   refine vc_noPan ?_
   refine vc_draw Tryz.mixed [(0, true), (1, true), (2, true), (3, false), (4, false), (5, false)] (fun w => St _ _ _ w) st (by kernel_rfl) (by repeat (first | exact okQ_noPan | exact okQ_body | exact okQ_bodyS | refine okQ_then ?_ | refine okQ_block ?_)) rfl (by kernel_rfl) ?_
   intro w cd; replace st := st.call0 cd; clear cd
   have hS := st
   refine vp_take rfl rfl rfl hS (fun w st => y_lda (vs := [_, _, _, _, _, _]) st 2 rfl isAgg42 sizeOf42 rfl rfl) ?_
   refine pld hS 1 isAgg27 ?_
   refine vp_take rfl rfl rfl hS (fun w st => y_lda (vs := [_, _]) st 0 rfl isAgg29 sizeOf29 rfl rfl) ?_
   refine vp_do rfl (e_sts (vs := [_, _, _, _, _, _]) st 2 rfl rfl rfl rfl rfl sizeOf42 rfl rfl (by (right; assumption)) ?_)
   intro w st; dsimp only [setNth, wr] at st
   refine vp_next (by exact st) ?_; intro hS
   refine vp_do rfl (e_st st 1 rfl rfl rfl rfl sizeOf27 rfl rfl (by (right; assumption)) ?_)
   intro w st; dsimp only [setNth, wr] at st
   refine vp_next (by exact st) ?_; intro hS
   refine vp_do rfl (e_sts (vs := [_, _]) st 0 rfl rfl rfl rfl rfl sizeOf29 rfl rfl (by (right; assumption)) ?_)
   intro w st; dsimp only [setNth, wr] at st
   refine vp_next (by exact st) ?_; intro hS
   refine vp_end ?_
   refine vq_noPan ?_
   refine vq_then (vk3 2 3 4 (vc_ret (vq_then_ret ?_)))
   refine vqd_post (.inl rfl) (results3 st results16 (.cell 2 rfl rfl isAgg42 sizeOf42) (.cell1 1 rfl rfl isAgg27 rfl) (.cell 0 rfl rfl isAgg29 sizeOf29)) ?_
   refine ⟨_, rfl, st.chg, ?_⟩
   rw [hpr]
   exact ⟨_, he_none _ _, rfl⟩
  ·intro hc14
   exact absurd hc14 (by decide)
 ·replace st := st.call0 cw
  have hpr : exprRes s = (ex0, 30, pl, 1) := by simp [exprRes, Nat.not_lt.2 hl, hfr]
  refine ym ?_
  iterate 3 refine vy (y_ext rfl rfl) ?_
  refine ya ?_
  refine vc_e (e_st st 1 rfl rfl rfl rfl sizeOf27 rfl rfl (by (right; assumption)) ?_)
  intro w st; dsimp only [setNth, wr] at st
  refine vc_e (e_sts (vs := [_, _]) st 0 rfl rfl rfl rfl rfl sizeOf29 rfl rfl (by (right; assumption)) ?_)
  intro w st; dsimp only [setNth, wr] at st
  refine vc_end (vq_then (vk4 2 3 4 5 (vc_seq (vc_seq (vc_region ?_)))))
  refine yl st 1 isAgg27 ?_
  refine vy (y_nei rfl rfl) ?_
  refine vc_end (vq_then (vk5 2 3 4 5 14 ?_))
  refine vc_ifs rfl ?_ ?_
  ·intro hc14
   try simp only [dn] at hc14
   refine vc_seq ?_
   refine vc_noPan ?_
   refine vc_draw Tryz.mixed [(0, true), (1, true), (2, true), (3, false), (4, false), (5, false)] (fun w => St _ _ _ w) st (by kernel_rfl) (by repeat (first | exact okQ_noPan | exact okQ_body | exact okQ_bodyS | refine okQ_then ?_ | refine okQ_block ?_)) rfl (by kernel_rfl) ?_
   intro w cd; replace st := st.call0 cd; clear cd
   have hS := st
   refine vp_take rfl rfl rfl hS (fun w st => y_lda (vs := [_, _, _, _, _, _]) st 2 rfl isAgg42 sizeOf42 rfl rfl) ?_
   refine pld hS 1 isAgg27 ?_
   refine vp_take rfl rfl rfl hS (fun w st => y_lda (vs := [_, _]) st 0 rfl isAgg29 sizeOf29 rfl rfl) ?_
   refine vp_do rfl (e_sts (vs := [_, _, _, _, _, _]) st 2 rfl rfl rfl rfl rfl sizeOf42 rfl rfl (by (right; assumption)) ?_)
   intro w st; dsimp only [setNth, wr] at st
   refine vp_next (by exact st) ?_; intro hS
   refine vp_do rfl (e_st st 1 rfl rfl rfl rfl sizeOf27 rfl rfl (by (right; assumption)) ?_)
   intro w st; dsimp only [setNth, wr] at st
   refine vp_next (by exact st) ?_; intro hS
   refine vp_do rfl (e_sts (vs := [_, _]) st 0 rfl rfl rfl rfl rfl sizeOf29 rfl rfl (by (right; assumption)) ?_)
   intro w st; dsimp only [setNth, wr] at st
   refine vp_next (by exact st) ?_; intro hS
   refine vp_end ?_
   refine vq_noPan ?_
   refine vq_then (vk3 2 3 4 (vc_ret (vq_then_ret ?_)))
   refine vqd_post (.inl rfl) (results3 st results16 (.cell 2 rfl rfl isAgg42 sizeOf42) (.cell1 1 rfl rfl isAgg27 rfl) (.cell 0 rfl rfl isAgg29 sizeOf29)) ?_
   refine ⟨_, rfl, st.chg, ?_⟩
   rw [hpr]
   exact ⟨_, he_none _ _, rfl⟩
  ·intro hc14
   exact absurd hc14 (by decide)
 ·replace st := st.pnew cw hn
  have hpr : exprRes s = match exprP c.e 64 c.ts with | .error f => (ex0, 30, f.1, f.2) | .ok (x, r) => if r.length = 0 then (x, 0, 0, 0) else (ex0, 30, atT c.e r, 2) := by
   unfold exprRes; rw [if_neg (by omega), hfr, hn.e, hn.ts]
   try rfl
  refine ym ?_
  iterate 3 refine vy (y_ext rfl rfl) ?_
  refine ya ?_
  refine vc_e (e_st st 3 rfl rfl rfl rfl sizeOf27 rfl rfl (by (right; assumption)) ?_)
  intro w st; dsimp only [setNth, wr] at st
  refine vc_e (e_sts (vs := [_, _]) st 2 rfl rfl rfl rfl rfl sizeOf29 rfl rfl (by (right; assumption)) ?_)
  intro w st; dsimp only [setNth, wr] at st
  refine vc_end (vq_then (vk4 2 3 4 5 (vc_seq (vc_seq (vc_region ?_)))))
  refine yl st 3 isAgg27 ?_
  refine vy (y_nei rfl rfl) ?_
  refine vc_end (vq_then (vk5 2 3 4 5 14 ?_))
  refine vc_ifs rfl ?_ ?_
  ·intro hc14
   exact absurd hc14 (by decide)
  ·intro hc14
   try simp only [dn] at hc14
   refine vc_code_skip (vq_then (vk4 2 3 4 5 (vc_seq (vc_region ?_))))
   refine vy (y_mf [] [_, _, _] rfl rfl) ?_
   refine vc_e (e_deferV rfl rfl rfl ?_)
   refine vc_end (vq_then (vk4 2 3 4 5 (vc_seq (vc_region ?_))))
   refine ym ?_
   refine vc_e (e_callk [_, _] rfl rfl call49 rfl (pexpr_any c hn.R hn.g c.ts (List.suffix_refl _) _ (hn.ok (st.res (i := 1) rfl) (hsg.kept st.chg (by simp)) (st.res (i := 0) rfl) (Nat.lt_of_lt_of_le h0 hw1)) (st.res (i := 0) rfl)) (by
       rintro _ w' ⟨f, hf, rfl, ch⟩
       obtain ⟨o', ho'⟩ : ∃ o', w'.heap[c.pb]? = some o' := ⟨_, Array.getElem?_eq_getElem (Nat.lt_of_lt_of_le (Array.getElem?_eq_some_iff.1 (st.res (i := 0) rfl)).1 ch.size)⟩
       have st' := St.prs (b := c.pb) st 0 rfl ch (.inr (Nat.le_trans hw1 hn.le)) ho'
       dsimp only [setNth] at st'
       rw [show refV c f = .iface 75 (.agg #[.int .i64 (f.1 : Int), .int .i64 (f.2 : Int)]) by rw [refV, hn.R]]
       exact expr_pan (st'.res (i := 4) rfl) (st'.res (i := 3) rfl) (st'.res (i := 2) rfl) n23 n24 n34 hb2 hb3 hb4 st'.chg (by rw [hpr, hf]) rfl rfl rfl) ?_)
   rintro _ w ⟨x, r1, hx, hsf, hln, hP1, cw, oq, cq, Sq, rfl, hT, hN⟩
   have hw2 := st.chg.size
   replace st := St.prsT (b := c.pb) st 0 rfl cw (.inr (Nat.le_trans hw1 hn.le)) hP1 (holds_ex hT) hN.2
   dsimp only [setNth] at st
   rw [hx] at hpr
   dsimp only at hpr
   have hsl := suf_len hsf
   refine vc_e (e_al (l := [_, _, _, _, _, _]) st rfl rfl zeroValue42 rfl ?_)
   intro b6 w hb6 st
   refine vc_e (e_sts (vs := [_, _, _, _, _, _]) st 0 rfl rfl rfl rfl rfl sizeOf42 rfl rfl (by (right; assumption)) ?_)
   intro w st; dsimp only [setNth, wr] at st
   refine vc_end (vq_then (vk5 2 3 4 5 6 (vc_seq (vc_seq ?_))))
   refine vc_noPan ?_
   refine vc_draw Tryz.mixed [(0, true), (1, true), (2, true), (3, true), (4, true), (5, true), (6, true), (7, true), (8, true), (9, true)] (fun w => St _ _ _ w) st (by kernel_rfl) (by repeat (first | exact okQ_noPan | exact okQ_body | exact okQ_bodyS | refine okQ_then ?_ | refine okQ_block ?_)) rfl (by kernel_rfl) ?_
   intro w cd; replace st := st.call0 cd; clear cd
   have hS := st
   refine pm hS ?_
   refine pnk hS ?_
   refine pfz hS 1 underlying91 sizeOf3 ?_
   refine pld hS 2 isAgg3 ?_
   refine pm hS ?_
   refine pnk hS ?_
   refine pf0 hS underlying91 sizeOf89 ?_
   refine pld hS 2 isAgg89 ?_
   refine vp_take rfl rfl rfl hS (fun w st => y_lensl rfl underlying89) ?_
   refine vp_take rfl rfl rfl hS (fun w st => y_lss rfl rfl) ?_
   refine vp_end ?_
   refine vq_noPan ?_
   refine vq_then (vk6 2 3 4 5 6 30 ?_)
   refine vc_ifs rfl ?_ ?_
   ·intro hc30
    try simp only [dn] at hc30
    have hr0 : 0 < r1.length := by omega
    refine vc_region ?_
    refine ym ?_
    refine vc_e (e_callk [_, _] rfl rfl call50 rfl (pfail_any c 2 r1 hsf _ (hn.ok (st.res (i := 3) rfl) (hsg.kept st.chg (by simp)) (st.res (i := 2) rfl) (Nat.lt_of_lt_of_le h0 hw1)) (st.res (i := 2) rfl) hn.R) (by
        rintro _ w' ⟨rfl, ch⟩
        rw [show refV c (atT c.e r1, 2) = .iface 75 (.agg #[.int .i64 (atT c.e r1 : Int), .int .i64 (2 : Nat)]) by rw [refV, hn.R]]
        have st' := st.call0 ch
        exact expr_pan (f := (atT c.e r1, 2)) (st'.res (i := 6) rfl) (st'.res (i := 5) rfl) (st'.res (i := 4) rfl) n23 n24 n34 hb2 hb3 hb4 st'.chg (by rw [hpr, if_neg (by omega)]) rfl rfl rfl) (fun _ _ h => h.elim))
   ·intro hc30
    try simp only [dn] at hc30
    have hr0 : r1.length = 0 := by omega
    refine vc_code_skip (vq_then (vk4 2 3 4 6 (vc_seq (vc_region ?_))))
    refine yla st 0 [_, _, _, _, _, _] isAgg42 sizeOf42 ?_
    refine vy (y_bld (.agg #[_, _]) [] rfl (fun w => by simp [Instr.build, go_sem] <;> repeat' constructor)) ?_
    refine vc_e (e_sts (vs := [_, _, _, _, _, _]) st 6 rfl rfl rfl rfl rfl sizeOf42 rfl rfl (by (right; assumption)) ?_)
    intro w st; dsimp only [setNth, wr] at st
    refine vc_e (e_st st 5 rfl rfl rfl rfl sizeOf27 rfl rfl (by (right; assumption)) ?_)
    intro w st; dsimp only [setNth, wr] at st
    refine vc_e (e_sts (vs := [_, _]) st 4 rfl rfl rfl rfl rfl sizeOf29 rfl rfl (by (right; assumption)) ?_)
    intro w st; dsimp only [setNth, wr] at st
    refine vc_end (vq_then (vk3 2 3 4 (vc_ret ?_)))
    refine vqd_ret (.inl rfl) call48 (expr_idle [.pointer (some ⟨b2, 0, none⟩), .pointer (some ⟨b3, 0, none⟩), .pointer (some ⟨b4, 0, none⟩)] rfl _) (fun w2 e2 => ?_)
    subst e2
    refine ⟨_, results3 st results16 (.cell 6 rfl rfl isAgg42 sizeOf42) (.cell1 5 rfl rfl isAgg27 rfl) (.cell 4 rfl rfl isAgg29 sizeOf29), _, rfl, st.chg, ?_⟩
    rw [hpr, if_pos hr0]
    exact ⟨_, ⟨oq, cq, Sq, rfl, (st.res (i := 1) rfl).1, hN.le hw2⟩, rfl⟩

end Go.Proofs.YtnmhlpnapgojjaaGreatDoor.Pq


/- Trees with each name and place turned: no program in sight. -/
namespace LexS
open Sx
section
variable (g : List UInt8 → List UInt8) (h : Int → Int)
mutual
def trE : Ex → Ex
  | .mk k op wd nm kids a => .mk k op wd (g nm) (trEs kids) (h a)
termination_by structural e => e
def trEs : List Ex → List Ex
  | [] => []
  | e :: r => trE e :: trEs r
termination_by structural l => l
end
mutual
def trS : Sm → Sm
  | .mk k nm other e body els a => .mk k (g nm) (g other) (trEs g h e) (trSs body) (trSs els) (h a)
termination_by structural e => e
def trSs : List Sm → List Sm
  | [] => []
  | e :: r => trS e :: trSs r
termination_by structural l => l
end
def trD (d : Dc) : Dc := ⟨g d.nm, d.wd, h d.a⟩
def trT (t : Th) : Th := ⟨g t.nm, t.locals.map (trD g h), trSs g h t.body, h t.a⟩
def trP (p : Pg) : Pg := ⟨p.shared.map (trD g h), p.locks.map (trD g h), p.threads.map (trT g h)⟩
end
variable {g : List UInt8 → List UInt8} {h : Int → Int}
theorem trEs_map (l : List Ex) : trEs g h l = l.map (trE g h) := by
  induction l with
  | nil => rfl
  | cons x r ih => simp only [trEs, List.map_cons, ih]
theorem trSs_map (l : List Sm) : trSs g h l = l.map (trS g h) := by
  induction l with
  | nil => rfl
  | cons x r ih => simp only [trSs, List.map_cons, ih]
end LexS


/- The names of a tree: no program in sight. -/
namespace LexS
open Sx
end LexS


/- How long a tree's text is: no program in sight. -/
namespace LexS
open Sx
theorem shw_len20 (x : Int) (hx : i64 x) : (shw x).length ≤ 20 := by
  have h : (dec x.natAbs).length ≤ 19 := dec_len 18 _ (by have := hx.1; have := hx.2; omega)
  unfold shw
  split <;> simp <;> omega
theorem par_len (b : Bool) (l : List UInt8) : (par b l).length ≤ l.length + 2 := by
  unfold par
  split <;> simp
theorem txtE_len : ∀ (n : Nat) (e : Ex), SizeOf.sizeOf e = n → OkE e → (txtE e).length ≤ 30 * szE e := by
  intro n
  refine Nat.strongRecOn n fun n ih e hn hok => ?_
  subst hn
  cases e with
  | mk k op wd nm kids a =>
    have hw := shw_len20 wd hok.wd
    have ho := shwO_len op
    have hkid : ∀ (j : Nat) x, kids[j]? = some x → (txtE x).length ≤ 30 * szE x := fun j x hx => ih _ (by have := List.sizeOf_lt_of_mem (List.mem_of_getElem? hx); simp; omega) x rfl (hok.kid (j := j) hx)
    rcases kids with _ | ⟨x, _ | ⟨y, _ | ⟨z, r⟩⟩⟩
    · simp only [txtE, szE, szEs]
      split
      · omega
      · split
        · omega
        · split <;> simp; omega
    · have h1 := hkid 0 x rfl
      have h2 := par_len (decide (x.k = 4)) (txtE x)
      simp only [txtE, szE, szEs]
      split
      · omega
      · split
        · omega
        · split
          · simp only [List.length_append]; omega
          · simp
    · have h1 := hkid 0 x rfl
      have h2 := par_len (inn op x false) (txtE x)
      have h3 := hkid 1 y rfl
      have h4 := par_len (inn op y true) (txtE y)
      simp only [txtE, szE, szEs]
      split
      · omega
      · split
        · omega
        · split
          · simp; omega
          · simp only [List.length_append, List.length_cons, List.length_nil]; omega
    · simp only [txtE, szE, szEs]
      split
      · omega
      · split
        · omega
        · split <;> simp; omega
theorem txX_len (l : List Ex) (h : OkEs l) : (txX l).length ≤ 30 * szEs l := by
  cases l with
  | nil => simp [txX]
  | cons x r => have := txtE_len _ x rfl (h.2 0 x rfl); simp only [txX, szEs]; omega
theorem mar_len' (d : Nat) : (mar d).length = 2 * d := by simp [mar]
theorem txtSs_len_of {l : List Sm} {d : Nat} (h : ∀ s ∈ l, rightS s d = true → (txtS s d).length ≤ 600 * szS s) (hr : rightSs l d = true) : (txtSs l d).length ≤ 600 * szSs l := by
  induction l with
  | nil => simp [txtSs]
  | cons s r ih =>
    simp only [rightSs, Bool.and_eq_true] at hr
    have h1 := h s (by simp) hr.1
    have h2 := ih (fun x hx => h x (.tail _ hx)) hr.2
    simp only [txtSs, szSs, List.length_append]; omega
theorem txtS_len : ∀ (n : Nat) (s : Sm), SizeOf.sizeOf s = n → OkS s → ∀ d, d ≤ 64 → rightS s d = true → (txtS s d).length ≤ 600 * szS s := by
  intro n
  refine Nat.strongRecOn n fun n ih s hn hok d hd hr => ?_
  subst hn
  cases s with
  | mk k nm other e body els a =>
    have hx := txX_len e hok.e
    rw [rightS] at hr
    simp only [Bool.and_eq_true, Bool.or_eq_true, decide_eq_true_eq, Bool.not_eq_true', Bool.or_eq_false_iff, decide_eq_false_iff_not] at hr
    obtain ⟨⟨⟨⟨⟨⟨⟨⟨h1, h2⟩, h3⟩, h4⟩, h5⟩, h6⟩, h7⟩, h8⟩, h9⟩ := hr
    have hm := mar_len' d
    have hb : d < 64 ∨ (body = [] ∧ els = []) := by
      rcases h7 with ⟨q1, q2⟩ | h
      · right
        refine ⟨?_, List.eq_nil_of_length_eq_zero (by omega)⟩
        rcases h5 with h | h
        · rw [q1] at h; cases h
        · exact List.eq_nil_of_length_eq_zero h
      · exact .inl h
    have hB : (txtSs body (d + 1)).length ≤ 600 * szSs body := by
      rcases hb with h | ⟨rfl, -⟩
      · refine txtSs_len_of (fun s hs hr => ?_) h8
        obtain ⟨j, hj⟩ := List.mem_iff_getElem?.1 hs
        exact ih _ (by have := List.sizeOf_lt_of_mem hs; simp; omega) s rfl (hok.body.2 j s hj) (d + 1) (by omega) hr
      · simp [txtSs]
    have hL : (txtSs els (d + 1)).length ≤ 600 * szSs els := by
      rcases hb with h | ⟨-, rfl⟩
      · refine txtSs_len_of (fun s hs hr => ?_) h9
        obtain ⟨j, hj⟩ := List.mem_iff_getElem?.1 hs
        exact ih _ (by have := List.sizeOf_lt_of_mem hs; simp; omega) s rfl (hok.els.2 j s hj) (d + 1) (by omega) hr
      · simp [txtSs]
    rw [txtS, szS]
    split
    · simp only [List.length_append, List.length_cons, List.length_nil]; omega
    · split
      · simp only [List.length_append, List.length_cons, List.length_nil]; omega
      · split
        · simp only [List.length_append, List.length_cons, List.length_nil]; omega
        · split
          · simp only [List.length_append, List.length_cons, List.length_nil]; omega
          · split
            · simp only [List.length_append, List.length_cons, List.length_nil]; omega
            · have hw : (if k = 4 then [119, 104, 105, 108, 101, 32, 40] else [105, 102, 32, 40] : List UInt8).length ≤ 7 := by split <;> simp
              have hz : (if 0 < els.length then mar d ++ [125, 32, 101, 108, 115, 101, 32, 123, 10] ++ txtSs els (d + 1) else [] : List UInt8).length ≤ 2 * d + 9 + 600 * szSs els := by
                split
                · simp only [List.length_append, List.length_cons, List.length_nil]; omega
                · simp
              rw [List.length_append, List.length_append, List.length_append, List.length_append, List.length_append, List.length_append, List.length_append]
              simp only [List.length_cons, List.length_nil]
              omega
theorem txtSs_len {l : List Sm} {d : Nat} (hok : OkSs l) (hd : d ≤ 64) (hr : rightSs l d = true) : (txtSs l d).length ≤ 600 * szSs l :=
  txtSs_len_of (fun s hs h => by
    obtain ⟨j, hj⟩ := List.mem_iff_getElem?.1 hs
    exact txtS_len _ s rfl (hok.2 j s hj) d hd h) hr
theorem joinC_len2 : ∀ (l : List Dc), (∀ x ∈ l, i64 x.wd) → (joinC (l.map dcT)).length ≤ 30 * szDs l
  | [], _ => by simp [joinC]
  | [x], h => by
    have := shw_len20 x.wd (h x (by simp))
    simp only [List.map_cons, List.map_nil, joinC, dcT, szDs]
    split <;> simp <;> omega
  | x :: y :: r, h => by
    have h0 := shw_len20 x.wd (h x (by simp))
    have ih := joinC_len2 (y :: r) (fun z hz => h z (.tail _ hz))
    simp only [List.map_cons, joinC, szDs, List.length_append, List.length_cons, List.length_nil] at ih ⊢
    have : (dcT x).length ≤ x.nm.length + 23 := by unfold dcT; split <;> simp <;> omega
    omega
theorem dcsT_len (word : List UInt8) (d : Nat) (l : List Dc) (h : OkD l) : (dcsT word d l).length ≤ 2 * d + word.length + 3 + 30 * szDs l := by
  have := joinC_len2 l (fun x hx => by obtain ⟨j, hj⟩ := List.mem_iff_getElem?.1 hx; exact (h.2 j x hj).1)
  unfold dcsT
  split
  · simp
  · simp only [List.length_append, List.length_cons, List.length_nil, mar_len']; omega
theorem thsT_len : ∀ (l : List Th), (∀ t ∈ l, OkD t.locals ∧ OkSs t.body) → (∀ t ∈ l, thOk t = true) → ((l.map thT).flatten).length ≤ 600 * szTs l
  | [], _, _ => by simp
  | t :: r, h, h2 => by
    obtain ⟨q1, q2⟩ := h t (by simp)
    have ih := thsT_len r (fun x hx => h x (.tail _ hx)) (fun x hx => h2 x (.tail _ hx))
    have h3 := h2 t (by simp)
    unfold thOk at h3
    simp only [Bool.and_eq_true] at h3
    have h4 := txtSs_len q2 (d := 1) (by omega) h3.2
    have h5 := dcsT_len [108, 111, 99, 97, 108] 1 t.locals q1
    simp only [List.map_cons, List.flatten_cons, List.length_append, szTs, thT, List.length_cons, List.length_nil] at h5 ih ⊢
    omega
theorem pgT_len (p : Pg) (hok : OkP p) (hp : pgOk p = true) : (pgT p).length ≤ 100 + 600 * szP p := by
  obtain ⟨h1, h2, h3⟩ := hok
  unfold pgOk at hp
  simp only [Bool.and_eq_true] at hp
  have a1 := dcsT_len [115, 104, 97, 114, 101, 100] 0 p.shared h1
  have a2 := dcsT_len [108, 111, 99, 107] 0 p.locks h2
  have a3 := thsT_len p.threads (fun t ht => by obtain ⟨j, hj⟩ := List.mem_iff_getElem?.1 ht; exact ⟨(h3.2 j t hj).1, (h3.2 j t hj).2.1⟩) (fun t ht => List.all_eq_true.1 hp.2 t ht)
  simp only [pgT, szP, List.length_append, List.length_cons, List.length_nil] at a1 a2 a3 ⊢
  omega
end LexS


/- Places change no text: no program in sight. -/
namespace LexS
open Sx
abbrev idS : List UInt8 → List UInt8 := fun s => s
section
variable {h : Int → Int}
end
/-! ### twice -/
section
variable {g : List UInt8 → List UInt8} {h g' : List UInt8 → List UInt8} {k k' : Int → Int}
mutual
theorem trE_trE : ∀ e : Ex, trE g' k' (trE g k e) = trE (fun s => g' (g s)) (fun a => k' (k a)) e
  | .mk _ op wd nm kids a => by simp only [trE, trEs_trEs kids]
termination_by structural e => e
theorem trEs_trEs : ∀ l : List Ex, trEs g' k' (trEs g k l) = trEs (fun s => g' (g s)) (fun a => k' (k a)) l
  | [] => rfl
  | e :: r => by simp only [trEs, trE_trE e, trEs_trEs r]
termination_by structural l => l
end
mutual
theorem trS_trS : ∀ s : Sm, trS g' k' (trS g k s) = trS (fun s => g' (g s)) (fun a => k' (k a)) s
  | .mk _ nm other e body els a => by simp only [trS, trEs_trEs, trSs_trSs body, trSs_trSs els]
termination_by structural e => e
theorem trSs_trSs : ∀ l : List Sm, trSs g' k' (trSs g k l) = trSs (fun s => g' (g s)) (fun a => k' (k a)) l
  | [] => rfl
  | s :: r => by simp only [trSs, trS_trS s, trSs_trSs r]
termination_by structural l => l
end
theorem trP_trP (p : Pg) : trP g' k' (trP g k p) = trP (fun s => g' (g s)) (fun a => k' (k a)) p := by
  have hd : ∀ l : List Dc, (l.map (trD g k)).map (trD g' k') = l.map (trD (fun s => g' (g s)) (fun a => k' (k a))) := fun l => by rw [List.map_map]; rfl
  simp only [trP, hd, List.map_map]
  congr 1
  refine List.map_congr_left fun t _ => ?_
  simp only [Function.comp, trT, hd, trSs_trSs]
end
/-! ### the numbers stay of their kinds -/
section
variable {g : List UInt8 → List UInt8} {k : Int → Int} (hk : ∀ a, i64 a → i64 (k a))
include hk
end
end LexS


/- A tree renamed: no program in sight. -/
namespace LexS
open Sx
theorem rightE_iff {e : Ex} {d : Nat} : rightE e d = true ↔ d ≤ 64 ∧ ((e.k = 1 ∧ 0 ≤ e.wd ∧ e.op = 0 ∧ e.nm = [] ∧ e.kids = []) ∨ (e.k = 2 ∧ isName e.nm = true ∧ e.op = 0 ∧ e.wd = 0 ∧ e.kids = []) ∨
    (e.k = 3 ∧ oneOp e.op = true ∧ e.wd = 0 ∧ e.nm = [] ∧ ∃ x, e.kids = [x] ∧ rightE x (if x.k = 4 then d + 2 else d + 1) = true) ∨
    (e.k = 4 ∧ twoOp e.op = true ∧ e.wd = 0 ∧ e.nm = [] ∧ ∃ x y, e.kids = [x, y] ∧ rightE x (if inn e.op x false = true then d + 1 else d) = true ∧ rightE y (if inn e.op y true = true then d + 1 else d) = true)) := by
  cases e with
  | mk k op wd nm kids a =>
    simp only [Ex.k, Ex.op, Ex.wd, Ex.nm, Ex.kids]
    rcases kids with _ | ⟨x, _ | ⟨y, _ | ⟨z, r⟩⟩⟩ <;>
    · simp only [rightE, Bool.and_eq_true, decide_eq_true_eq]
      refine and_congr_right fun _ => ?_
      by_cases h1 : k = 1
      · subst h1; simp
      by_cases h2 : k = 2
      · subst h2; simp
      by_cases h3 : k = 3
      · subst h3; simp [and_assoc] <;> (try (intros; constructor <;> intro h <;> first | exact h | exact ⟨_, rfl, h⟩ | exact ⟨_, _, rfl, rfl, h⟩ | exact ⟨_, rfl, _, rfl, h⟩ | (obtain ⟨_, rfl, h⟩ := h; exact h) | (obtain ⟨_, _, rfl, rfl, h⟩ := h; exact h) | (obtain ⟨_, rfl, _, rfl, h⟩ := h; exact h)))
      by_cases h4 : k = 4
      · subst h4; simp [and_assoc] <;> (try (intros; constructor <;> intro h <;> first | exact h | exact ⟨_, rfl, h⟩ | exact ⟨_, _, rfl, rfl, h⟩ | exact ⟨_, rfl, _, rfl, h⟩ | (obtain ⟨_, rfl, h⟩ := h; exact h) | (obtain ⟨_, _, rfl, rfl, h⟩ := h; exact h) | (obtain ⟨_, rfl, _, rfl, h⟩ := h; exact h)))
      simp [h1, h2, h3, h4]
theorem rightX_iff {b : Bool} {e : List Ex} : rightX b e = true ↔ (b = true ∧ ∃ x, e = [x] ∧ rightE x 0 = true) ∨ (b = false ∧ e = []) := by
  cases b
  · simp [rightX]
  · rcases e with _ | ⟨x, _ | ⟨y, r⟩⟩ <;> simp [rightX]
section
variable {g : Wd → Wd} {h : Int → Int}
end
end LexS


/- The tokens of a tree, and that they are parsed as the tree: expressions. -/
namespace ParS
open Sx LexS

section
variable (k op wd : Int) (nm : List UInt8) (kids : List Ex) (a : Int)
theorem exk : (Ex.mk k op wd nm kids a).k = k := rfl
theorem exop : (Ex.mk k op wd nm kids a).op = op := rfl
theorem exwd : (Ex.mk k op wd nm kids a).wd = wd := rfl
theorem exnm : (Ex.mk k op wd nm kids a).nm = nm := rfl
theorem exkids : (Ex.mk k op wd nm kids a).kids = kids := rfl
end
/-! ### how far readers go -/
theorem flatE_len (u : List Tok → PR Ex) (hu : Goes u) : ∀ (n : Nat) (r : List Tok) (l : List Flat) (r' : List Tok), flatE u n r = .ok (l, r') → r'.length ≤ r.length
  | 0, r, l, r', h => by simp [flatE] at h
  | n + 1, r, l, r', h => by
    simp only [flatE] at h
    cases hop : opT (here r) with
    | none => rw [hop] at h; cases h; exact Nat.le_refl _
    | some op =>
      rw [hop] at h
      simp only at h
      cases hx : u r.tail with
      | error f => rw [hx] at h; cases h
      | ok p =>
        obtain ⟨x, r1⟩ := p
        rw [hx] at h
        simp only at h
        cases hf : flatE u n r1 with
        | error f => rw [hf] at h; cases h
        | ok q =>
          obtain ⟨l1, r2⟩ := q
          rw [hf] at h
          cases h
          have := flatE_len u hu n r1 l1 _ hf
          have := hu _ _ _ hx
          have := tail_lt (opT_ne hop)
          omega
theorem exprW_goes {u : List Tok → PR Ex} (hu : Goes u) : Goes (exprW u) := by
  intro r x r' h
  unfold exprW at h
  cases hx : u r with
  | error f => rw [hx] at h; cases h
  | ok p =>
    obtain ⟨y, r1⟩ := p
    rw [hx] at h
    simp only at h
    cases hf : flatE u (r1.length + 1) r1 with
    | error f => rw [hf] at h; cases h
    | ok q =>
      obtain ⟨l1, r2⟩ := q
      rw [hf] at h
      cases h
      have := flatE_len u hu _ _ _ _ hf
      have := hu _ _ _ hx
      omega
theorem leaf_goes (e : Nat) : Goes (leafP e) := by
  intro r x r' h
  unfold leafP at h
  split at h
  · rename_i hk; cases h; exact tail_lt (kind_ne hk (by decide))
  · split at h
    · rename_i hk; cases h; exact tail_lt (kind_ne hk (by decide))
    · cases h
theorem unary_goes (e : Nat) : ∀ m, Goes (unaryP e m)
  | 0 => by
    intro r x r' h
    simp only [unaryP] at h
    split at h
    · cases h
    · exact leaf_goes e r x r' h
  | m + 1 => by
    intro r x r' h
    simp only [unaryP] at h
    split at h
    · rename_i hi
      have h0 := tail_lt (inner_ne hi)
      split at h
      · cases hx : exprW (unaryP e m) r.tail with
        | error f => rw [hx] at h; cases h
        | ok p =>
          obtain ⟨y, r1⟩ := p
          rw [hx] at h
          simp only at h
          have h1 := exprW_goes (unary_goes e m) _ _ _ hx
          cases hw : want e [41] r1 with
          | error f => rw [hw] at h; cases h
          | ok r2 =>
            rw [hw] at h
            cases h
            obtain ⟨h2, rfl⟩ := want_ok hw
            have := tail_lt (isT_ne h2)
            omega
      · cases hx : unaryP e m r.tail with
        | error f => rw [hx] at h; cases h
        | ok p =>
          obtain ⟨y, r1⟩ := p
          rw [hx] at h
          cases h
          have h1 := unary_goes e m _ _ _ hx
          omega
    · exact leaf_goes e r x r' h
/-! ### the tokens of an expression -/
def sgT (s : List UInt8) : Tok := ⟨4, s, 0, 0⟩
def nmT (s : List UInt8) : Tok := ⟨1, s, 0, 0⟩
def wdT (s : List UInt8) : Tok := ⟨2, s, 0, 0⟩
def nuT (n : Nat) : Tok := ⟨3, dec n, n, 0⟩
def parT (b : Bool) (l : List Tok) : List Tok := if b = true then sgT [40] :: (l ++ [sgT [41]]) else l
def tkE : Ex → List Tok
  | .mk k op wd nm kids a => if k = 1 then [nuT wd.toNat] else if k = 2 then [nmT nm] else if k = 3 then sgT (shwO op) :: (match kids with | [x] => parT (decide (x.k = 4)) (tkE x) | _ => [])
    else (match kids with | [x, y] => parT (inn op x false) (tkE x) ++ (sgT (shwO op) :: parT (inn op y true) (tkE y)) | _ => [])
abbrev zE : Ex → Ex := trE idS (fun _ => 0)
theorem here_cons (t : Tok) (l : List Tok) : here (t :: l) = t := rfl
theorem isT_sg (s x : List UInt8) (l : List Tok) : isT s (sgT x :: l) = decide (x = s) := by rw [Bool.eq_iff_iff]; simp [isT, here, sgT] <;> exact decide_eq_true_iff
theorem isT_wd (s x : List UInt8) (l : List Tok) : isT s (wdT x :: l) = decide (x = s) := by rw [Bool.eq_iff_iff]; simp [isT, here, wdT] <;> exact decide_eq_true_iff
theorem isT_nm (s x : List UInt8) (l : List Tok) : isT s (nmT x :: l) = false := by simp [isT, here, nmT]
theorem isT_nu (s : List UInt8) (n : Nat) (l : List Tok) : isT s (nuT n :: l) = false := by simp [isT, here, nuT]
theorem opT_sg {k : Int} (h : twoOp k = true) : ∃ op : Nat, opT (sgT (shwO k)) = some op ∧ (op : Int) = k := by
  simp only [twoOp, decide_eq_true_eq] at h
  obtain ⟨m, rfl⟩ : ∃ m : Nat, k = (m : Int) := ⟨k.toNat, by omega⟩
  have key : ∀ m : Nat, m < 17 → 0 < m → findO (shwO (m : Int)) = some m := by decide
  exact ⟨m, by simp only [opT, sgT, if_true]; exact key m (by omega) (by omega), rfl⟩
theorem opT_par (l : List Tok) : opT (here (sgT [41] :: l)) = none := by show opT (sgT [41]) = none; decide
theorem loopE_stop (u : List Tok → PR Ex) (n : Nat) (lv : Int) (x : Ex) (Z : List Tok) (h : ∀ o, opT (here Z) = some o → lvlO (o : Int) < lv) : loopE u (n + 1) lv x Z = .ok (x, Z) := by
  simp only [loopE]
  cases hop : opT (here Z) with
  | none => rfl
  | some op => simp only [h op hop, if_true]
/-- no operator behind it that would bind its parts away -/
def Stops (x : Ex) (Z : List Tok) : Prop := x.k = 4 → ∀ o, opT (here Z) = some o → lvlO (o : Int) ≤ lvlO x.op

section
variable {e : Nat}
theorem paren_of {m : Nat} {x : Ex} {l Z : List Tok} (hx : exprP e m (l ++ (sgT [41] :: Z)) = .ok (x, sgT [41] :: Z)) : unaryP e (m + 1) (sgT [40] :: (l ++ [sgT [41]]) ++ Z) = .ok (x, Z) := by
  have e1 : sgT [40] :: (l ++ [sgT [41]]) ++ Z = sgT [40] :: (l ++ (sgT [41] :: Z)) := by simp
  rw [e1]
  simp only [unaryP]
  have h1 : innerT (sgT [40] :: (l ++ (sgT [41] :: Z))) = true := by simp [innerT, isT_sg]
  rw [if_pos h1, here_cons, if_pos (by rfl)]
  have h2 : exprW (unaryP e m) (l ++ (sgT [41] :: Z)) = .ok (x, sgT [41] :: Z) := hx
  simp only [List.tail_cons, h2]
  have h3 : want e [41] (sgT [41] :: Z) = .ok Z := by rw [want_pos (by simp [isT_sg])]; rfl
  rw [h3]
theorem shw_dec {x : Int} (h : 0 ≤ x) : shw x = dec x.toNat := by
  unfold shw; rw [if_neg (by omega)]; congr 1; omega
theorem rightE_le {x : Ex} {d : Nat} (h : rightE x d = true) : d ≤ 64 := (rightE_iff.1 h).1
/-- the loop's fuel does not matter -/
theorem lf (m n n' : Nat) (lv : Int) (x : Ex) (Z : List Tok) (h : Z.length < n) (h' : Z.length < n') : loopE (unaryP e m) n lv x Z = loopE (unaryP e m) n' lv x Z :=
  loopE_fuel _ (unary_goes e m) (loopE_len _ (unary_goes e m)) n n' lv x Z h h'
theorem unary_sg {m : Nat} {k : Int} (hk : oneOp k = true) {r : List Tok} {x : Ex} {Z : List Tok} (h : unaryP e m r = .ok (x, Z)) : unaryP e (m + 1) (sgT (shwO k) :: r) = .ok (.mk 3 k 0 [] [x] 0, Z) := by
  simp only [oneOp, decide_eq_true_eq] at hk
  rcases hk with rfl | rfl
  · have e1 : shwO 17 = [45] := by decide
    simp only [unaryP, e1]
    rw [if_pos (by simp [innerT, isT_sg]), if_neg (by simp [here_cons, sgT])]
    simp only [List.tail_cons, h, here_cons, sgT]; rfl
  · have e1 : shwO 18 = [33] := by decide
    simp only [unaryP, e1]
    rw [if_pos (by simp [innerT, isT_sg]), if_neg (by simp [here_cons, sgT])]
    simp only [List.tail_cons, h, here_cons, sgT]; rfl
/-- an expression's tokens are read as it is, but for places -/
theorem tkE_read : ∀ (n : Nat) (x : Ex), SizeOf.sizeOf x = n → ∀ d, rightE x d = true → ∀ Z : List Tok,
    (x.k ≠ 4 → unaryP e (64 - d) (tkE x ++ Z) = .ok (zE x, Z)) ∧
    (∀ lv : Int, (x.k = 4 → lv ≤ lvlO x.op) → Stops x Z → climbE (unaryP e (64 - d)) lv (tkE x ++ Z) = loopE (unaryP e (64 - d)) (Z.length + 1) lv (zE x) Z) := by
  intro n
  refine Nat.strongRecOn n fun n ih => ?_
  intro x hn d hr Z
  have sub : ∀ y, y ∈ x.kids → ∀ d', rightE y d' = true → ∀ Z' : List Tok,
      (y.k ≠ 4 → unaryP e (64 - d') (tkE y ++ Z') = .ok (zE y, Z')) ∧
      (∀ lv : Int, (y.k = 4 → lv ≤ lvlO y.op) → Stops y Z' → climbE (unaryP e (64 - d')) lv (tkE y ++ Z') = loopE (unaryP e (64 - d')) (Z'.length + 1) lv (zE y) Z') := fun y hy d' hr' Z' => by
    have := memE_lt hy
    exact ih _ (by omega) y rfl d' hr' Z'
  -- in parentheses
  have inpar : ∀ y, y ∈ x.kids → ∀ d', rightE y (d' + 1) = true → ∀ Z' : List Tok, unaryP e (64 - d') (sgT [40] :: (tkE y ++ [sgT [41]]) ++ Z') = .ok (zE y, Z') := fun y hy d' hr' Z' => by
    have hle := rightE_le hr'
    have e1 : 64 - d' = (64 - (d' + 1)) + 1 := by omega
    rw [e1]
    refine paren_of ?_
    have h1 := (sub y hy _ hr' (sgT [41] :: Z')).2 1 (fun hk => ?_) (fun hk o ho => by rw [opT_par] at ho; cases ho)
    · rw [climbE_expr _ (unary_goes e _)] at h1
      show exprW (unaryP e (64 - (d' + 1))) _ = _
      rw [h1, loopE_stop]
      intro o ho; rw [opT_par] at ho; cases ho
    · rcases (rightE_iff.1 hr').2 with h | h | h | h
      · have := h.1; omega
      · have := h.1; omega
      · have := h.1; omega
      · obtain ⟨_, htwo, _⟩ := h
        obtain ⟨op, hop, e2⟩ := opT_sg htwo
        have := opT_lvl hop
        rw [e2] at this; exact this
  have hA : x.k ≠ 4 → unaryP e (64 - d) (tkE x ++ Z) = .ok (zE x, Z) := by
    intro h4
    have hcase := (rightE_iff.1 hr).2
    have hd := rightE_le hr
    cases x with
    | mk k op wd nm kids a =>
    simp only [exk, exop, exwd, exnm, exkids] at hcase h4 sub inpar
    rcases hcase with ⟨rfl, h1, rfl, rfl, rfl⟩ | ⟨rfl, h1, rfl, rfl, rfl⟩ | h | h
    · have e1 : tkE (.mk 1 0 wd [] [] a) ++ Z = nuT wd.toNat :: Z := by simp [tkE]
      rw [e1]
      have hl : leafP e (nuT wd.toNat :: Z) = .ok (zE (.mk 1 0 wd [] [] a), Z) := by
        simp only [leafP, here_cons, nuT, if_true, zE, trE, trEs, idS, List.tail_cons]
        rw [Int.toNat_of_nonneg h1]; rfl
      cases hm : 64 - d with
      | zero => simp only [unaryP]; rw [if_neg (by simp [innerT, isT_nu])]; exact hl
      | succ m => simp only [unaryP]; rw [if_neg (by simp [innerT, isT_nu])]; exact hl
    · have e1 : tkE (.mk 2 0 0 nm [] a) ++ Z = nmT nm :: Z := by simp [tkE]
      rw [e1]
      have hl : leafP e (nmT nm :: Z) = .ok (zE (.mk 2 0 0 nm [] a), Z) := by
        simp only [leafP, here_cons, nmT, zE, trE, trEs, idS, List.tail_cons]; simp
      cases hm : 64 - d with
      | zero => simp only [unaryP]; rw [if_neg (by simp [innerT, isT_nm])]; exact hl
      | succ m => simp only [unaryP]; rw [if_neg (by simp [innerT, isT_nm])]; exact hl
    · obtain ⟨rfl, hone, rfl, rfl, y, rfl, hy⟩ := h
      have e1 : tkE (.mk 3 op 0 [] [y] a) ++ Z = sgT (shwO op) :: (parT (decide (y.k = 4)) (tkE y) ++ Z) := by simp [tkE]
      rw [e1]
      have hle := rightE_le hy
      by_cases hy4 : y.k = 4
      · rw [if_pos hy4] at hy hle
        have e2 : 64 - d = (64 - (d + 1)) + 1 := by omega
        rw [e2]
        simp only [parT, hy4, decide_true, if_true]
        have := unary_sg (e := e) hone (inpar y (.head _) (d + 1) hy Z)
        rw [this]; simp only [zE, trE, trEs, idS]
      · rw [if_neg hy4] at hy hle
        have e2 : 64 - d = (64 - (d + 1)) + 1 := by omega
        rw [e2]
        simp only [parT, hy4, decide_false, Bool.false_eq_true, if_false]
        have := unary_sg (e := e) hone ((sub y (.head _) (d + 1) hy Z).1 hy4)
        rw [this]; simp only [zE, trE, trEs, idS]
    · exact absurd h.1 h4
  refine ⟨hA, fun lv hlv hst => ?_⟩
  by_cases h4 : x.k = 4
  · have hcase := (rightE_iff.1 hr).2
    have hd := rightE_le hr
    cases x with
    | mk k op wd nm kids a =>
    simp only [exk, exop, exwd, exnm, exkids] at hcase h4 sub inpar hlv
    rcases hcase with h | h | h | h
    · have := h.1; omega
    · have := h.1; omega
    · have := h.1; omega
    · obtain ⟨rfl, htwo, rfl, rfl, y, z, rfl, hy, hz⟩ := h
      change rightE y (if inn op y false = true then d + 1 else d) = true at hy
      change rightE z (if inn op z true = true then d + 1 else d) = true at hz
      have hlv := hlv rfl
      obtain ⟨o, ho, eo⟩ := opT_sg htwo
      have e1 : tkE (.mk 4 op 0 [] [y, z] a) ++ Z = parT (inn op y false) (tkE y) ++ (sgT (shwO op) :: (parT (inn op z true) (tkE z) ++ Z)) := by simp [tkE]
      rw [e1]
      obtain ⟨R, hR⟩ : ∃ R, R = parT (inn op z true) (tkE z) ++ Z := ⟨_, rfl⟩
      -- the second side
      have hsec : ∀ n', R.length < n' + 1 → ∃ r1 y1, unaryP e (64 - d) R = .ok (y1, r1) ∧ loopE (unaryP e (64 - d)) n' (lvlO op + 1) y1 r1 = .ok (zE z, Z) ∧ Z.length < R.length := by
        intro n' hn'
        have stop1 : ∀ o', opT (here Z) = some o' → lvlO (o' : Int) < lvlO op + 1 := fun o' ho' => by
          have := hst rfl o' ho'
          simp only [Ex.op] at this; omega
        cases hin : inn op z true with
        | true =>
          rw [hin] at hz hR
          simp only [if_true] at hz
          have h1 := inpar z (.tail _ (.head _)) d hz Z
          have e2 : R = sgT [40] :: (tkE z ++ [sgT [41]]) ++ Z := by rw [hR]; simp [parT]
          have hlt : Z.length < R.length := by rw [e2]; simp; omega
          refine ⟨Z, zE z, by rw [e2]; exact h1, ?_, hlt⟩
          obtain ⟨n'', rfl⟩ : ∃ n'', n' = n'' + 1 := ⟨n' - 1, by omega⟩
          exact loopE_stop _ _ _ _ _ stop1
        | false =>
          rw [hin] at hz hR
          simp only [Bool.false_eq_true, if_false] at hz
          have e2 : R = tkE z ++ Z := by rw [hR]; simp [parT]
          have hzl : z.k = 4 → lvlO op < lvlO z.op := fun hk => by
            unfold inn at hin
            simp only [hk, decide_true, Bool.true_and, Bool.or_eq_false_iff, decide_eq_false_iff_not] at hin
            omega
          have h1 := (sub z (.tail _ (.head _)) d hz Z).2 (lvlO op + 1) (fun hk => by have := hzl hk; omega) (fun hk o' ho' => by have := hzl hk; have := stop1 o' ho'; omega)
          rw [loopE_stop _ _ _ _ _ stop1] at h1
          rw [← e2] at h1
          unfold climbE at h1
          cases hu : unaryP e (64 - d) R with
          | error f => rw [hu] at h1; cases h1
          | ok p =>
            obtain ⟨y1, r1⟩ := p
            rw [hu] at h1
            simp only at h1
            have hg := unary_goes e _ _ _ _ hu
            have hZ := loopE_len _ (unary_goes e _) _ _ _ _ _ _ h1
            refine ⟨r1, y1, rfl, ?_, by omega⟩
            rw [← h1]
            exact lf _ _ _ _ _ _ (by omega) (by omega)
      -- the loop goes over the operator
      have hloop : ∀ n', R.length < n' → loopE (unaryP e (64 - d)) (n' + 1) lv (zE y) (sgT (shwO op) :: R) = loopE (unaryP e (64 - d)) (Z.length + 1) lv (zE (.mk 4 op 0 [] [y, z] a)) Z := by
        intro n' hn'
        obtain ⟨r1, y1, h1, h2, h3⟩ := hsec n' (by omega)
        simp only [loopE, here_cons, ho, List.tail_cons]
        rw [if_neg (by rw [eo]; omega), h1]
        simp only
        rw [eo, h2]
        simp only
        rw [lf _ n' (Z.length + 1) _ _ _ (by omega) (by omega)]
        simp only [binE, sgT, eo, zE, trE, trEs, idS]; rfl
      rw [← hR]
      cases hin : inn op y false with
      | true =>
        rw [hin] at hy
        simp only [if_true] at hy
        have h1 := inpar y (.head _) d hy (sgT (shwO op) :: R)
        simp only [parT, if_true]
        unfold climbE
        rw [h1]
        simp only
        exact hloop _ (by simp)
      | false =>
        rw [hin] at hy
        simp only [Bool.false_eq_true, if_false] at hy
        simp only [parT, Bool.false_eq_true, if_false]
        have hyl : y.k = 4 → lvlO op ≤ lvlO y.op := fun hk => by
          unfold inn at hin
          simp only [hk, decide_true, Bool.true_and, Bool.or_eq_false_iff, decide_eq_false_iff_not] at hin
          omega
        have h1 := (sub y (.head _) d hy (sgT (shwO op) :: R)).2 lv (fun hk => by have := hyl hk; omega) (fun hk o' ho' => by
          rw [here_cons, ho] at ho'; cases ho'; rw [eo]; exact hyl hk)
        rw [h1]
        exact hloop _ (by simp)
  · have h1 := hA h4
    unfold climbE
    rw [h1]
/-- an expression that stands alone, or ahead of what is no operator -/
theorem tkE_expr {x : Ex} (hr : rightE x 0 = true) {Z : List Tok} (hZ : opT (here Z) = none) : exprP e 64 (tkE x ++ Z) = .ok (zE x, Z) := by
  have h1 := (tkE_read (e := e) _ x rfl 0 hr Z).2 1 (fun hk => ?_) (fun hk o ho => by rw [hZ] at ho; cases ho)
  · rw [climbE_expr _ (unary_goes e _)] at h1
    show exprW (unaryP e (64 - 0)) _ = _
    rw [h1, loopE_stop]
    intro o ho; rw [hZ] at ho; cases ho
  · rcases (rightE_iff.1 hr).2 with h | h | h | h
    · have := h.1; omega
    · have := h.1; omega
    · have := h.1; omega
    · obtain ⟨_, htwo, _⟩ := h
      obtain ⟨op, hop, e2⟩ := opT_sg htwo
      have := opT_lvl hop
      rw [e2] at this; exact this
end
end ParS

