/- A part of the proof: contracts of functions and plain laws; each theorem says its own conditions. -/
import Derived.Test.YtnmhlpnapgojjaaGreatDoorTopReadK2
import Derived.Test.YtnmhlpnapgojjaaGreatDoorTopReadK11
import Derived.Test.YtnmhlpnapgojjaaGreatDoorTopReadK12
import Derived.Test.YtnmhlpnapgojjaaGreatDoorTopReadK0
import Derived.Test.YtnmhlpnapgojjaaGreatDoorTopReadK10
import Derived.Test.YtnmhlpnapgojjaaGreatDoorTopReadK1
import Derived.Test.YtnmhlpnapgojjaaGreatDoorTopReadK8
set_option linter.unusedVariables false
set_option linter.unusedSimpArgs false
namespace Go.Proofs.YtnmhlpnapgojjaaGreatDoor.Pq
open Go.RowKit Sx LexS ParS _root_.Go.Proofs.Tryz
theorem toks_chunk : ∀ {ts : List Tok} {j : Nat} {t : Tok}, ts[j]? = some t → ((toksL ts).drop (j * 4)).take 4 = tkL t
 | [], j, t, h => by simp at h
 | x :: r, 0, t, h => by
  simp only [List.getElem?_cons_zero, Option.some.injEq] at h
  subst h
  simp [toksL, tokL]
 | x :: r, j + 1, t, h => by
  have e : toksL (x :: r) = tokL x ++ toksL r := by simp [toksL]
  rw [e, show (j + 1) * 4 = (tokL x).length + j * 4 by simp [tokL]; omega, ← List.drop_drop, List.drop_left]
  exact toks_chunk (by simpa using h)
/-- a parser at a text's beginning -/
structure PNew (s : List UInt8) (n : Nat) (c : PCtx) (w' : World) : Prop where
 R : c.R = 75
 g : c.g = 0
 ts : c.ts = (front s).1
 e : c.e = s.length
 n0 : c.n0 = c.pb
 own : w'.ownsRow n 118 4 (.slice c.oa c.ts.length c.cap) c.ts.length (toksL c.ts)
 at_ : PAt c c.ts w'
 le : n ≤ c.pb
 lt : ∀ b ∈ obk c.oa, b < c.pb
 slen : s.length ≤ 65536
theorem PNew.ok {s : List UInt8} {n base : Nat} {c : PCtx} {r : List Tok} {w w' : World} (h : PNew s n c w) (hrow : w'.ownsRow base 118 4 (.slice c.oa c.ts.length c.cap) c.ts.length (toksL c.ts)) (hs : SigAt 0 w') (hp : PAt c r w') (h0 : 0 < n) : PCok c w' := by
 obtain ⟨hlen, hok⟩ := front_ok (s := s) (T := (front s).1) (f := (front s).2) rfl
 rw [← h.ts] at hlen hok
 have := h.slen
 refine ⟨?_, by rw [h.n0]; exact Nat.le_refl _, by rw [h.g, h.n0]; exact Nat.lt_of_lt_of_le h0 h.le, by omega, by rw [h.e]; omega, by rw [h.g]; exact hs, by rw [h.n0]; exact Nat.le_of_lt (Array.getElem?_eq_some_iff.1 hp).1, fun t ht => (hok t ht).2.1⟩
 refine (rowC_own (S := (· < c.n0)) (owns_mono hrow (fun b _ => Nat.zero_le _)) (fun b hb => by rw [h.n0]; exact h.lt b hb)).imp id fun ⟨g, off, e1, hb, hl, hc⟩ => ⟨g, off, e1, hb, hl, fun j hj => ?_⟩
 have := hc j hj
 dsimp only at this
 rw [toks_chunk (List.getElem?_eq_getElem hj)] at this
 simpa only [List.getD, List.getElem?_eq_getElem hj, Option.getD_some] using this
def BegunPost (s : List UInt8) (w : World) (v : Value) (w' : World) : Prop := Chg [] w w' ∧
 ((65536 < s.length ∧ v = .tuple #[.pointer none, .int .i64 4, .agg #[.int .i64 0, .int .i64 0]]) ∨
  (s.length ≤ 65536 ∧ ∃ rule p : Nat, (front s).2 = some (rule, p) ∧ v = .tuple #[.pointer none, .int .i64 30, .agg #[.int .i64 (p : Int), .int .i64 1]]) ∨
  (s.length ≤ 65536 ∧ (front s).2 = none ∧ ∃ c, PNew s w.heap.size c w' ∧ v = .tuple #[.pointer (some ⟨c.pb, 0, none⟩), .int .i64 0, .agg #[.int .i64 0, .int .i64 0]]))

theorem begun_any (s : List UInt8) (w : World) (hs : SigAt 0 w) : Ret Tryz.prog 35 [str s] w (BegunPost s w) := by
 refine ret_of [_] func35 rfl ntmps35 rfl ?_
 have st := St.init w []
 obtain ⟨w0, rfl⟩ : ∃ w0, w0 = w := ⟨_, rfl⟩
 refine sr ?_
 iterate 2 refine ya ?_
 refine vc_e (e_al (l := [_, _]) st rfl rfl zeroValue29 rfl ?_)
 intro b4 w hb4 st
 refine et (vk2 0 4 (sr ?_))
 refine ym ?_
 refine vc_e (e_call [_] rfl rfl call75 rfl (scan_any s _) ?_)
 rintro _ w ⟨cw, tq, tc, rfl, hown⟩
 replace st := St.pushOwn st cw hown
 obtain ⟨T, e, pl, ru, hT⟩ : ∃ T e pl ru, scanRes s = (T, e, pl, ru) := ⟨_, _, _, _, rfl⟩
 rw [hT] at st hown ⊢
 dsimp only at st hown ⊢
 refine ym ?_
 iterate 3 refine vy (y_ext rfl rfl) ?_
 refine vc_e (e_al (l := [_, _]) st rfl rfl zeroValue29 rfl ?_)
 intro b7 w hb7 st
 iterate 2 refine ya ?_
 refine vc_e (ests st 0 [_, _] sizeOf29 ?_)
 intro w st; dsimp only [setNth, wr] at st
 refine et (vk5 0 4 5 6 7 (vc_seq (sr ?_)))
 refine ym ?_
 refine et (vk6 0 4 5 6 7 14 (vc_block (sr ?_)))
 refine vy (y_eqi rfl rfl) ?_
 refine ya ?_
 refine et (vk7 0 4 5 6 7 14 15 ?_)
 refine vif ?_ ?_
 ·intro hc15
  try simp only [dn] at hc15
  have he : e = 0 := by omega
  subst he
  have hsc : s.length ≤ 65536 ∧ (front s).2 = none ∧ T = (front s).1 := by
   unfold scanRes at hT
   split at hT
   ·cases hT
   ·rename_i hl
    split at hT
    ·rename_i hf; simp only [Prod.mk.injEq] at hT; exact ⟨by omega, hf, hT.1.symm⟩
    ·cases hT
  obtain ⟨hle, hfr, rfl⟩ := hsc
  obtain ⟨hlen, hok⟩ := front_ok (s := s) (T := (front s).1) (f := (front s).2) rfl
  refine sr ?_
  iterate 2 refine ym ?_
  refine vy (y_lens rfl underlying9) ?_
  refine vy (ybd (.agg #[_, _, _]) [(0, _), (2, _)]) ?_
  have hbt : ∀ b ∈ obk tq, b < w.heap.size := fun b hb => (owns_lt (st.res (i := 1) rfl) b hb).2
  refine vc_e (e_bxn (l := [_, _, _]) st rfl rfl rfl rfl ?_)
  intro b21 w hbe hb21 st
  refine vy (ybd (.agg #[_, _]) []) ?_
  iterate 2 refine ya ?_
  refine vc_e (ests st 3 [_, _] sizeOf29 ?_)
  intro w st; dsimp only [setNth, wr] at st
  refine et (vk3 2 3 4 (vc_ret (vq_block_ret (vq_then_ret ?_))))
  refine vq_ret3 st (.inl rfl) results35 (.tmp rfl) (.tmp rfl) (by exact .cell 3 rfl rfl isAgg29 sizeOf29) ?_
  refine ⟨_, rfl, ?_⟩
  refine ⟨st.chg, .inr (.inr ⟨hle, hfr, ⟨b21, b21, tq, tc, (front s).1, s.length, 91, 75, 0⟩, ⟨rfl, rfl, rfl, rfl, rfl, st.res (i := 2) rfl, ?_, hb21, ?_, hle⟩, rfl⟩)⟩
  ·show w.heap[b21]? = _
   have h2 : w.heap[b21]? = some (.cells [.slice tq (front s).1.length tc, .int .i64 0, .int .i64 (s.length : Int)].toArray 91 (0, 0)) := st.res (i := 0) rfl
   rw [h2]; simp [pcell]
  intro b hb; show b < b21; rw [hbe]; exact hbt b hb
 intro hc15
 try simp only [dn] at hc15
 refine sr ?_
 refine vy (y_eqi rfl rfl) ?_
 refine ya ?_
 refine et (vk4 4 6 7 23 ?_)
 refine vif ?_ ?_
 ·intro hc23
  try simp only [dn] at hc23
  have he : e = 4 := by omega
  have hsc : 65536 < s.length := by
   unfold scanRes at hT
   split at hT
   ·assumption
   ·split at hT
    ·simp only [Prod.mk.injEq] at hT; omega
    ·simp only [Prod.mk.injEq] at hT; omega
  refine sr ?_
  refine ym ?_
  refine vy (ybd (.agg #[_, _]) []) ?_
  iterate 2 refine ya ?_
  refine vc_e (ests st 2 [_, _] sizeOf29 ?_)
  intro w st; dsimp only [setNth, wr] at st
  refine et (vk3 2 3 4 (vc_ret (vq_block_ret (vq_then_ret ?_))))
  refine vq_ret3 st (.inl rfl) results35 (.tmp rfl) (.tmp rfl) (by exact .cell 2 rfl rfl isAgg29 sizeOf29) ?_
  refine ⟨_, rfl, ?_⟩
  refine ⟨st.chg, .inl ⟨hsc, ?_⟩⟩
  rw [he]; rfl
 intro hc23
 try simp only [dn] at hc23
 have hsc : s.length ≤ 65536 ∧ (front s).2 = some (ru, pl) := by
  unfold scanRes at hT
  split at hT
  ·simp only [Prod.mk.injEq] at hT; omega
  ·rename_i hl
   split at hT
   ·simp only [Prod.mk.injEq] at hT; omega
   ·rename_i hf; simp only [Prod.mk.injEq] at hT
    obtain ⟨-, -, rfl, rfl⟩ := hT
    exact ⟨by omega, hf⟩
 refine vc_code_skip (vq_block (vq_then (vk2 4 7 (vc_seq ?_))))
 refine vdr Tryz.mixed [Yt 0, Yt 1, Yt 2, Yt 3, Yt 4, Nt 5] [.blk b7 (.cells [.int .i64 (pl : Int), .int .i64 (ru : Int)].toArray 29 (0, 0))] st ?_
 clear st; intro w st hS
 refine pf0 hS underlying29 sizeOf3 ?_
 refine pld hS 0 isAgg3 ?_
 refine vp_take rfl rfl rfl hS (fun w st => ybd (.agg #[_, _]) [(0, _), (1, _)]) ?_
 iterate 2 refine vp_take rfl rfl rfl hS (fun w st => y_as rfl) ?_
 refine vp_do rfl (ests st 2 [_, _] sizeOf29 ?_)
 intro w st; dsimp only [setNth, wr] at st
 refine vp_next st.dr ?_; intro hS
 refine vp_end (vq_then (vk3 2 3 4 (vc_ret ?_)))
 refine vq_ret3 st (.inl rfl) results35 (.tmp rfl) (.tmp rfl) (by exact .cell 2 rfl rfl isAgg29 sizeOf29) ?_
 refine ⟨_, rfl, ?_⟩
 exact ⟨st.chg, .inr (.inl ⟨hsc.1, ru, pl, hsc.2, rfl⟩)⟩
end Go.Proofs.YtnmhlpnapgojjaaGreatDoor.Pq


namespace Go.Proofs.YtnmhlpnapgojjaaGreatDoor.Pq
open Go.RowKit Sx LexS ParS _root_.Go.Proofs.Tryz
abbrev pg00 : List Value := [.slice none 0 0, .slice none 0 0, .slice none 0 0]

set_option maxHeartbeats 1000000 in
theorem parse_catch (b2 b3 b4 p ru : Nat) (e : Int) (w : World) (h2 : w.heap[b2]? = some (.cells pg00.toArray 26 (0, 0))) (h3 : w.heap[b3]? = some (.cells [.int .i64 e].toArray 27 (0, 0))) (h4 : w.heap[b4]? = some (.cells [.int .i64 0, .int .i64 0].toArray 29 (0, 0)))
    (n1 : b2 ≠ b3) (n2 : b2 ≠ b4) (n3 : b3 ≠ b4) : DefCatch Tryz.prog 36 [.pointer (some ⟨b2, 0, none⟩), .pointer (some ⟨b3, 0, none⟩), .pointer (some ⟨b4, 0, none⟩)].toArray (.iface 75 (.agg #[.int .i64 (p : Int), .int .i64 (ru : Int)])) w
  (fun w' => w'.heap[b2]? = some (.cells pg00.toArray 26 (0, 0)) ∧ w'.heap[b3]? = some (.cells [.int .i64 30].toArray 27 (0, 0)) ∧ w'.heap[b4]? = some (.cells [.int .i64 (p : Int), .int .i64 (ru : Int)].toArray 29 (0, 0)) ∧ Chg [b2, b3, b4] w w') := by
 refine callsD_of_wpS func36 rfl fun c₀ cs hu => ?_
 have st := St.of3 [b2, b3, b4] h2 h3 h4 n1 n2 n3
 apply wpS_seq
 apply wpS_region
 simp [wpOpsS, go_sem, recoverD, hu, ntmps36, Exit.thenS]
 apply wpS_seq
 apply wpS_region
 simp [wpOpsS, go_sem, Exit.thenS]
 refine wpS_cond (t := true) (by simp [Act.eval, Array.replicate]) ?_
 simp only [if_true]
 refine wpS_of_wp ?_
 refine wp_of_vc (n := (11, [])) (kn := [(0, .pointer (some ⟨b2, 0, none⟩)), (1, .pointer (some ⟨b3, 0, none⟩)), (2, .pointer (some ⟨b4, 0, none⟩)), (3, .iface 75 (.agg #[.int .i64 (p : Int), .int .i64 (ru : Int)]))]) (K.of (by rfl) ?_) ?_
 ·intro i v hv
  simp only [find] at hv
  repeat' split at hv
  all_goals first | (rename_i hh; have hh' := Nat.eq_of_beq_eq_true hh; subst hh'; cases hv; rfl) | simp at hv
 refine ddr Tryz.mixed (.take 0 (.take 1 (.two 2 4 (.take 3 (.one 4 (.one 5 (.one 6 .done)))) (.two 2 5 (.take 3 (.one 5 (.one 6 .done))) (.one 2 (.take 3 (.one 6 .done))))))) [] st ?_
 clear st; intro w st hS
 refine vd_take rfl rfl rfl hS (fun w st => ybd (.agg #[_, _, _]) []) ?_
 refine dm hS ?_
 refine vd_two rfl rfl ?_ ?_
 refine (e_run rfl rfl (y_ta rfl underlying75) ?_)
 refine vd_next st.dr ?_; intro hS
 refine vd_take rfl rfl rfl hS (fun w st => y_fldA (vs := [_, _]) rfl underlying75 rfl rfl isAgg29 sizeOf29 rfl) ?_
 refine vd_do rfl (ests st 0 [_, _, _] sizeOf26 ?_)
 intro w st; dsimp only [setNth, wr] at st
 refine vd_next st.dr ?_; intro hS
 refine vd_do rfl (est st 1 sizeOf27 ?_)
 intro w st; dsimp only [setNth, wr] at st
 refine vd_next st.dr ?_; intro hS
 rotate_left
 focus
  refine (ests st 0 [_, _, _] sizeOf26 ?_)
  intro w st; dsimp only [setNth, wr] at st
  refine vd_next st.dr ?_; intro hS
  refine vd_two rfl rfl ?_ ?_
  refine (e_run rfl rfl (y_ta rfl underlying75) ?_)
  refine vd_next st.dr ?_; intro hS
  refine vd_take rfl rfl rfl hS (fun w st => y_fldA (vs := [_, _]) rfl underlying75 rfl rfl isAgg29 sizeOf29 rfl) ?_
  refine vd_do rfl (est st 1 sizeOf27 ?_)
  intro w st; dsimp only [setNth, wr] at st
  refine vd_next st.dr ?_; intro hS
  rotate_left
  refine (est st 1 sizeOf27 ?_)
  intro w st; dsimp only [setNth, wr] at st
  refine vd_next st.dr ?_; intro hS
  refine vd_do rfl (e_run rfl rfl (y_ta rfl underlying75) ?_)
  refine vd_next st.dr ?_; intro hS
  refine vd_take rfl rfl rfl hS (fun w st => y_fldA (vs := [_, _]) rfl underlying75 rfl rfl isAgg29 sizeOf29 rfl) ?_
 all_goals
  refine vd_do rfl (ests st 2 [_, _] sizeOf29 ?_)
  intro w st; dsimp only [setNth, wr] at st
  refine vd_next st.dr ?_; intro hS
  refine vd_end ?_
  intro a ha
  exact ⟨ha.defers, _, rfl, .tuple #[], by simp [results, results36], ⟨_, rfl⟩, rfl, by first | exact ⟨st.res (i := 0) rfl, st.res (i := 1) rfl, st.res (i := 2) rfl, st.chg⟩⟩
set_option maxHeartbeats 1000000 in
theorem expr_catch (b2 b3 b4 p ru : Nat) (e : Int) (w : World) (h2 : w.heap[b2]? = some (.cells ex00.toArray 42 (0, 0))) (h3 : w.heap[b3]? = some (.cells [.int .i64 e].toArray 27 (0, 0))) (h4 : w.heap[b4]? = some (.cells [.int .i64 0, .int .i64 0].toArray 29 (0, 0)))
    (n1 : b2 ≠ b3) (n2 : b2 ≠ b4) (n3 : b3 ≠ b4) : DefCatch Tryz.prog 48 [.pointer (some ⟨b2, 0, none⟩), .pointer (some ⟨b3, 0, none⟩), .pointer (some ⟨b4, 0, none⟩)].toArray (.iface 75 (.agg #[.int .i64 (p : Int), .int .i64 (ru : Int)])) w
  (fun w' => w'.heap[b2]? = some (.cells ex00.toArray 42 (0, 0)) ∧ w'.heap[b3]? = some (.cells [.int .i64 30].toArray 27 (0, 0)) ∧ w'.heap[b4]? = some (.cells [.int .i64 (p : Int), .int .i64 (ru : Int)].toArray 29 (0, 0)) ∧ Chg [b2, b3, b4] w w') := by
 refine callsD_of_wpS func48 rfl fun c₀ cs hu => ?_
 have st := St.of3 [b2, b3, b4] h2 h3 h4 n1 n2 n3
 apply wpS_seq
 apply wpS_region
 simp [wpOpsS, go_sem, recoverD, hu, ntmps48, Exit.thenS]
 apply wpS_seq
 apply wpS_region
 simp [wpOpsS, go_sem, Exit.thenS]
 refine wpS_cond (t := true) (by simp [Act.eval, Array.replicate]) ?_
 simp only [if_true]
 refine wpS_of_wp ?_
 refine wp_of_vc (n := (11, [])) (kn := [(0, .pointer (some ⟨b2, 0, none⟩)), (1, .pointer (some ⟨b3, 0, none⟩)), (2, .pointer (some ⟨b4, 0, none⟩)), (3, .iface 75 (.agg #[.int .i64 (p : Int), .int .i64 (ru : Int)]))]) (K.of (by rfl) ?_) ?_
 ·intro i v hv
  simp only [find] at hv
  repeat' split at hv
  all_goals first | (rename_i hh; have hh' := Nat.eq_of_beq_eq_true hh; subst hh'; cases hv; rfl) | simp at hv
 refine ddr Tryz.mixed (.take 0 (.take 1 (.two 2 4 (.take 3 (.one 4 (.one 5 (.one 6 .done)))) (.two 2 5 (.take 3 (.one 5 (.one 6 .done))) (.one 2 (.take 3 (.one 6 .done))))))) [] st ?_
 clear st; intro w st hS
 refine vd_take rfl rfl rfl hS (fun w st => ybd (.agg #[_, _, _, _, _, _]) []) ?_
 refine dm hS ?_
 refine vd_two rfl rfl ?_ ?_
 refine (e_run rfl rfl (y_ta rfl underlying75) ?_)
 refine vd_next st.dr ?_; intro hS
 refine vd_take rfl rfl rfl hS (fun w st => y_fldA (vs := [_, _]) rfl underlying75 rfl rfl isAgg29 sizeOf29 rfl) ?_
 refine vd_do rfl (ests st 0 [_, _, _, _, _, _] sizeOf42 ?_)
 intro w st; dsimp only [setNth, wr] at st
 refine vd_next st.dr ?_; intro hS
 refine vd_do rfl (est st 1 sizeOf27 ?_)
 intro w st; dsimp only [setNth, wr] at st
 refine vd_next st.dr ?_; intro hS
 rotate_left
 focus
  refine (ests st 0 [_, _, _, _, _, _] sizeOf42 ?_)
  intro w st; dsimp only [setNth, wr] at st
  refine vd_next st.dr ?_; intro hS
  refine vd_two rfl rfl ?_ ?_
  refine (e_run rfl rfl (y_ta rfl underlying75) ?_)
  refine vd_next st.dr ?_; intro hS
  refine vd_take rfl rfl rfl hS (fun w st => y_fldA (vs := [_, _]) rfl underlying75 rfl rfl isAgg29 sizeOf29 rfl) ?_
  refine vd_do rfl (est st 1 sizeOf27 ?_)
  intro w st; dsimp only [setNth, wr] at st
  refine vd_next st.dr ?_; intro hS
  rotate_left
  refine (est st 1 sizeOf27 ?_)
  intro w st; dsimp only [setNth, wr] at st
  refine vd_next st.dr ?_; intro hS
  refine vd_do rfl (e_run rfl rfl (y_ta rfl underlying75) ?_)
  refine vd_next st.dr ?_; intro hS
  refine vd_take rfl rfl rfl hS (fun w st => y_fldA (vs := [_, _]) rfl underlying75 rfl rfl isAgg29 sizeOf29 rfl) ?_
 all_goals
  refine vd_do rfl (ests st 2 [_, _] sizeOf29 ?_)
  intro w st; dsimp only [setNth, wr] at st
  refine vd_next st.dr ?_; intro hS
  refine vd_end ?_
  intro a ha
  exact ⟨ha.defers, _, rfl, .tuple #[], by simp [results, results48], ⟨_, rfl⟩, rfl, by first | exact ⟨st.res (i := 0) rfl, st.res (i := 1) rfl, st.res (i := 2) rfl, st.chg⟩⟩
end Go.Proofs.YtnmhlpnapgojjaaGreatDoor.Pq


namespace Go.Proofs.YtnmhlpnapgojjaaGreatDoor.Pq
open Go.RowKit Sx LexS ParS _root_.Go.Proofs.Tryz

theorem parse_idle (args : List Value) (h3 : args.length = 3) (w : World) : DefIdle Tryz.prog 36 args.toArray w (fun w' => w' = w) := by
 refine callsD_of_wpS func36 rfl fun c₀ cs hu => ?_
 obtain ⟨x, y, z, rfl⟩ : ∃ x y z, args = [x, y, z] := by
  match args, h3 with
  | [x, y, z], _ => exact ⟨x, y, z, rfl⟩
 apply wpS_seq
 apply wpS_region
 simp [wpOpsS, go_sem, recoverD, hu, ntmps36, Exit.thenS]
 apply wpS_seq
 apply wpS_region
 simp [wpOpsS, go_sem, Exit.thenS]
 refine wpS_cond (t := false) (by simp [Act.eval, Array.replicate]) ?_
 simp only [Bool.false_eq_true, if_false]
 refine wpS_of_wp (wp_skip ?_)
 cases c₀
 simp_all [bodyPostS, results, results36]
theorem expr_idle (args : List Value) (h3 : args.length = 3) (w : World) : DefIdle Tryz.prog 48 args.toArray w (fun w' => w' = w) := by
 refine callsD_of_wpS func48 rfl fun c₀ cs hu => ?_
 obtain ⟨x, y, z, rfl⟩ : ∃ x y z, args = [x, y, z] := by
  match args, h3 with
  | [x, y, z], _ => exact ⟨x, y, z, rfl⟩
 apply wpS_seq
 apply wpS_region
 simp [wpOpsS, go_sem, recoverD, hu, ntmps48, Exit.thenS]
 apply wpS_seq
 apply wpS_region
 simp [wpOpsS, go_sem, Exit.thenS]
 refine wpS_cond (t := false) (by simp [Act.eval, Array.replicate]) ?_
 simp only [Bool.false_eq_true, if_false]
 refine wpS_of_wp (wp_skip ?_)
 cases c₀
 simp_all [bodyPostS, results, results48]
theorem _root_.Sx.St.push2 {w w' w0 : World} {M : List Nat} {hs : List Res} (st : St w0 M hs w) (c : Chg [] w w') {r q : Res} (hr : r.holds w0.heap.size w') (hq : q.holds w0.heap.size w') (hat : ∀ k ∈ r.at?, w.heap.size ≤ k) (hat' : ∀ k ∈ q.at?, w.heap.size ≤ k) (hd : ∀ k ∈ r.at?, k ∉ q.at?) : St w0 M (r :: q :: hs) w' := by
 have st1 := st.pushR c hq hat'
 refine ⟨st1.chg, List.pairwise_cons.2 ⟨fun x hx k hk hk' => ?_, st1.nodup⟩, fun x hx => ?_⟩
 ·rcases List.mem_cons.1 hx with rfl | h
  ·exact hd k hk hk'
  ·exact absurd (st.lt h hk') (by have := hat k hk; omega)
 rcases List.mem_cons.1 hx with rfl | h
 ·exact hr
 ·exact st1.here x h
theorem _root_.Sx.St.pnew {s : List UInt8} {c : PCtx} {w w' w0 : World} {M : List Nat} {hs : List Res} (st : St w0 M hs w) (ch : Chg [] w w') (h : PNew s w.heap.size c w') :
    St w0 M (.blk c.pb (.cells (pcell c c.ts).toArray c.T (0, 0)) :: .own (.slice c.oa c.ts.length c.cap) 118 4 c.ts.length (toksL c.ts) :: hs) w' :=
 st.push2 ch h.at_ (ownsRow_base h.own st.chg.size) (by simpa [Res.at?] using h.le) (fun k hk => (World.ownsRow.lt h.own k (by simpa [Res.at?] using hk)).1)
  (fun k hk => by
    simp only [Res.at?, List.mem_singleton] at hk
    subst hk
    intro hk'
    simp only [Res.at?, obk_own] at hk'
    exact absurd (h.lt _ hk') (Nat.lt_irrefl _))

/-- what 'Parse' leaves behind -/
def ParsePost (s : List UInt8) (w : World) (v : Value) (w' : World) : Prop := Chg [] w w' ∧ ∃ vp, HP w (parseRes s).1 vp w' ∧ v = .tuple #[vp, .int .i64 ((parseRes s).2.1 : Int), .agg #[.int .i64 ((parseRes s).2.2.1 : Int), .int .i64 ((parseRes s).2.2.2 : Int)]]
/-- what 'Expr' leaves behind -/
def ExprPost (s : List UInt8) (w : World) (v : Value) (w' : World) : Prop := Chg [] w w' ∧ ∃ vx, HE w (exprRes s).1 vx w' ∧ v = .tuple #[vx, .int .i64 ((exprRes s).2.1 : Int), .agg #[.int .i64 ((exprRes s).2.2.1 : Int), .int .i64 ((exprRes s).2.2.2 : Int)]]
theorem hp_none (w0 : World) (w' : World) : HP w0 pg0 (.agg pg00.toArray) w' :=
 ⟨none, none, none, 0, 0, 0, [], rfl, ⟨none, 0, none, 0, none, 0, [], [], [], rfl, ⟨World.ownsRow_nil _ _ _ _, rfl⟩, ⟨World.ownsRow_nil _ _ _ _, rfl⟩, ⟨[], [], World.ownsRow_nil _ _ _ _, rfl, rfl, rfl⟩, rfl⟩, Nw.nil⟩
theorem he_none (w0 : World) (w' : World) : HE w0 ex0 (.agg ex00.toArray) w' := ⟨none, 0, [], rfl, exr_nil, Nw.nil⟩
theorem _root_.Sx.holds_pg {tE tS tD tT base : Nat} {w : World} {q : Pg} {l : List Value} {S : List Nat} (h : PgS tE tS tD tT w q l S) : (Res.tree S fun w => PgS tE tS tD tT w q l S).holds base w := holds_of h h.lt (fun a b h hk => h.kept hk)

/-- a refusal is caught -/
theorem parse_pan {s : List UInt8} {w0 w : World} {b2 b3 b4 : Nat} {f : Flt} {kn : Kn} (h2 : w.heap[b2]? = some (.cells pg00.toArray 26 (0, 0))) (h3 : w.heap[b3]? = some (.cells [.int .i64 0].toArray 27 (0, 0))) (h4 : w.heap[b4]? = some (.cells [.int .i64 0, .int .i64 0].toArray 29 (0, 0)))
    (n1 : b2 ≠ b3) (n2 : b2 ≠ b4) (n3 : b3 ≠ b4) (l2 : w0.heap.size ≤ b2) (l3 : w0.heap.size ≤ b3) (l4 : w0.heap.size ≤ b4) (ch : Chg [] w0 w) (hpr : parseRes s = (pg0, 30, f.1, f.2))
  (k2 : find kn 2 = some (.pointer (some ⟨b2, 0, none⟩))) (k3 : find kn 3 = some (.pointer (some ⟨b3, 0, none⟩))) (k4 : find kn 4 = some (.pointer (some ⟨b4, 0, none⟩))) :
  PanK (21, [⟨.fn (.func 36) (List.toArray [.pointer (some ⟨b2, 0, none⟩), .pointer (some ⟨b3, 0, none⟩), .pointer (some ⟨b4, 0, none⟩)]), #[]⟩]) kn (bodyPostD Tryz.prog Tryz.f10 fun e w' => ∃ v, e = .returned v ∧ ParsePost s w0 v w') (.iface 75 (.agg #[.int .i64 (f.1 : Int), .int .i64 (f.2 : Int)])) w := by
 refine pan_leave call36 (parse_catch b2 b3 b4 f.1 f.2 _ w h2 h3 h4 n1 n2 n3) (fun w2 hc => ?_)
 obtain ⟨g2, g3, g4, c2⟩ := hc
 have st2 := St.of3 [] g2 g3 g4 n1 n2 n3
 refine ⟨_, results3 st2 results10 (.cell 0 k2 rfl isAgg26 sizeOf26) (.cell1 1 k3 rfl isAgg27 rfl) (.cell 2 k4 rfl isAgg29 sizeOf29), _, rfl, ch.trans' c2 (by simp [l2, l3, l4]), ?_⟩
 rw [hpr]
 exact ⟨_, hp_none _ _, rfl⟩
set_option maxHeartbeats 1000000 in
theorem parse_any (s : List UInt8) (w : World) (hsg : SigAt 0 w) : Ret Tryz.prog 10 [str s] w (ParsePost s w) := by
 refine retd_of [_] func10 rfl ntmps10 rfl ?_
 have st := St.init w []
 obtain ⟨w0, rfl⟩ : ∃ w0, w0 = w := ⟨_, rfl⟩
 have h0 : 0 < w0.heap.size := World.block_lt_of_cell? w0 _ (hsg 0 (by omega)).1
 refine sr ?_
 refine vc_e (e_al (l := [_, _, _]) st rfl rfl zeroValue26 rfl ?_)
 intro b2 w hb2 st
 refine vc_e (e_al (l := [_]) st rfl rfl zeroValue27 rfl ?_)
 intro b3 w hb3 st
 refine vc_e (e_al (l := [_, _]) st rfl rfl zeroValue29 rfl ?_)
 intro b4 w hb4 st
 refine et (vk4 0 2 3 4 (sr ?_))
 refine ym ?_
 have n43 := st.bne 0 1 (by decide) rfl rfl
 have n42 := st.bne 0 2 (by decide) rfl rfl
 have n32 := st.bne 1 2 (by decide) rfl rfl
 have n34 := Ne.symm n43
 have n24 := Ne.symm n42
 have n23 := Ne.symm n32
 have hw1 := st.chg.size
 refine vc_e (e_call [_] rfl rfl call35 rfl (begun_any s _ (hsg.kept st.chg (by simp))) ?_)
 rintro _ w ⟨cw, hb⟩
 rcases hb with ⟨hl, rfl⟩ | ⟨hl, ru, pl, hfr, rfl⟩ | ⟨hl, hfr, c, hn, rfl⟩
 ·replace st := st.call0 cw
  have hpr : parseRes s = (pg0, 4, 0, 0) := by simp [parseRes, hl]
  refine ym ?_
  iterate 3 refine vy (y_ext rfl rfl) ?_
  refine ya ?_
  refine vc_e (est st 1 sizeOf27 ?_)
  intro w st; dsimp only [setNth, wr] at st
  refine vc_e (ests st 0 [_, _] sizeOf29 ?_)
  intro w st; dsimp only [setNth, wr] at st
  refine et (vk4 2 3 4 5 (vc_seq (sr ?_)))
  refine yl st 1 isAgg27 ?_
  refine vy (y_nei rfl rfl) ?_
  refine et (vk5 2 3 4 5 13 ?_)
  refine vif ?_ ?_
  ·intro hc13
   try simp only [dn] at hc13
   refine vc_seq ?_
   refine vc_noPan ?_
   refine vdr0 Tryz.mixed [Yt 0, Yt 1, Yt 2, Nt 3, Nt 4, Nt 5] st ?_
   clear st; intro w st hS
   refine vp_take rfl rfl rfl hS (fun w st => y_lda (vs := [_, _, _]) st 2 rfl isAgg26 sizeOf26 rfl rfl) ?_
   refine pld hS 1 isAgg27 ?_
   refine vp_take rfl rfl rfl hS (fun w st => y_lda (vs := [_, _]) st 0 rfl isAgg29 sizeOf29 rfl rfl) ?_
   refine vp_do rfl (ests st 2 [_, _, _] sizeOf26 ?_)
   intro w st; dsimp only [setNth, wr] at st
   refine vp_next (by exact st) ?_; intro hS
   refine vp_do rfl (est st 1 sizeOf27 ?_)
   intro w st; dsimp only [setNth, wr] at st
   refine vp_next (by exact st) ?_; intro hS
   refine vp_do rfl (ests st 0 [_, _] sizeOf29 ?_)
   intro w st; dsimp only [setNth, wr] at st
   refine vp_next (by exact st) ?_; intro hS
   refine vp_end ?_
   refine vq_noPan ?_
   refine vq_then (vk3 2 3 4 (vc_ret (vq_then_ret ?_)))
   refine vqd_post (.inl rfl) (results3 st results10 (.cell 2 rfl rfl isAgg26 sizeOf26) (.cell1 1 rfl rfl isAgg27 rfl) (.cell 0 rfl rfl isAgg29 sizeOf29)) ?_
   refine ⟨_, rfl, st.chg, ?_⟩
   rw [hpr]
   exact ⟨_, hp_none _ _, rfl⟩
  intro hc13
  exact absurd hc13 (by decide)
 ·replace st := st.call0 cw
  have hpr : parseRes s = (pg0, 30, pl, 1) := by simp [parseRes, Nat.not_lt.2 hl, hfr]
  refine ym ?_
  iterate 3 refine vy (y_ext rfl rfl) ?_
  refine ya ?_
  refine vc_e (est st 1 sizeOf27 ?_)
  intro w st; dsimp only [setNth, wr] at st
  refine vc_e (ests st 0 [_, _] sizeOf29 ?_)
  intro w st; dsimp only [setNth, wr] at st
  refine et (vk4 2 3 4 5 (vc_seq (sr ?_)))
  refine yl st 1 isAgg27 ?_
  refine vy (y_nei rfl rfl) ?_
  refine et (vk5 2 3 4 5 13 ?_)
  refine vif ?_ ?_
  ·intro hc13
   try simp only [dn] at hc13
   refine vc_seq ?_
   refine vc_noPan ?_
   refine vdr0 Tryz.mixed [Yt 0, Yt 1, Yt 2, Nt 3, Nt 4, Nt 5] st ?_
   clear st; intro w st hS
   refine vp_take rfl rfl rfl hS (fun w st => y_lda (vs := [_, _, _]) st 2 rfl isAgg26 sizeOf26 rfl rfl) ?_
   refine pld hS 1 isAgg27 ?_
   refine vp_take rfl rfl rfl hS (fun w st => y_lda (vs := [_, _]) st 0 rfl isAgg29 sizeOf29 rfl rfl) ?_
   refine vp_do rfl (ests st 2 [_, _, _] sizeOf26 ?_)
   intro w st; dsimp only [setNth, wr] at st
   refine vp_next (by exact st) ?_; intro hS
   refine vp_do rfl (est st 1 sizeOf27 ?_)
   intro w st; dsimp only [setNth, wr] at st
   refine vp_next (by exact st) ?_; intro hS
   refine vp_do rfl (ests st 0 [_, _] sizeOf29 ?_)
   intro w st; dsimp only [setNth, wr] at st
   refine vp_next (by exact st) ?_; intro hS
   refine vp_end ?_
   refine vq_noPan ?_
   refine vq_then (vk3 2 3 4 (vc_ret (vq_then_ret ?_)))
   refine vqd_post (.inl rfl) (results3 st results10 (.cell 2 rfl rfl isAgg26 sizeOf26) (.cell1 1 rfl rfl isAgg27 rfl) (.cell 0 rfl rfl isAgg29 sizeOf29)) ?_
   refine ⟨_, rfl, st.chg, ?_⟩
   rw [hpr]
   exact ⟨_, hp_none _ _, rfl⟩
  intro hc13
  exact absurd hc13 (by decide)
 ·replace st := st.pnew cw hn
  have hpr : parseRes s = match progP c.e (c.ts.length + 1) c.ts with | .error f => (pg0, 30, f.1, f.2) | .ok p => (p, 0, 0, 0) := by
   unfold parseRes; rw [if_neg (by omega), hfr, hn.e, hn.ts]
   try rfl
  refine ym ?_
  iterate 3 refine vy (y_ext rfl rfl) ?_
  refine ya ?_
  refine vc_e (est st 3 sizeOf27 ?_)
  intro w st; dsimp only [setNth, wr] at st
  refine vc_e (ests st 2 [_, _] sizeOf29 ?_)
  intro w st; dsimp only [setNth, wr] at st
  refine et (vk4 2 3 4 5 (vc_seq (sr ?_)))
  refine yl st 3 isAgg27 ?_
  refine vy (y_nei rfl rfl) ?_
  refine et (vk5 2 3 4 5 13 ?_)
  refine vif ?_ ?_
  ·intro hc13
   exact absurd hc13 (by decide)
  intro hc13
  try simp only [dn] at hc13
  refine kt (vk4 2 3 4 5 (sr ?_))
  refine vy (y_mf [] [_, _, _] rfl rfl) ?_
  refine vc_e (e_deferV rfl rfl rfl ?_)
  refine et (vk4 2 3 4 5 (sr ?_))
  refine ym ?_
  refine vc_e (e_callk [_] rfl rfl call37 rfl (pprog_any c hn.R hn.g c.ts (List.suffix_refl _) _ (hn.ok (st.res (i := 1) rfl) (hsg.kept st.chg (by simp)) (st.res (i := 0) rfl) (Nat.lt_of_lt_of_le h0 hw1)) (st.res (i := 0) rfl) (c.ts.length + 1) (by omega)) (by
      rintro _ w' ⟨f, hf, rfl, ch⟩
      obtain ⟨o', ho'⟩ : ∃ o', w'.heap[c.pb]? = some o' := ⟨_, Array.getElem?_eq_getElem (Nat.lt_of_lt_of_le (Array.getElem?_eq_some_iff.1 (st.res (i := 0) rfl)).1 ch.size)⟩
      have st' := St.prs (b := c.pb) st 0 rfl ch (.inr (Nat.le_trans hw1 hn.le)) ho'
      dsimp only [setNth] at st'
      rw [show refV c f = .iface 75 (.agg #[.int .i64 (f.1 : Int), .int .i64 (f.2 : Int)]) by rw [refV, hn.R]]
      exact parse_pan (st'.res (i := 4) rfl) (st'.res (i := 3) rfl) (st'.res (i := 2) rfl) n23 n24 n34 hb2 hb3 hb4 st'.chg (by rw [hpr, hf]) rfl rfl rfl) ?_)
  rintro _ w ⟨q, hq, cw, os, ol, ot, cs, cl, ct, Sq, rfl, hT, hN⟩
  have hw2 := st.chg.size
  obtain ⟨o', ho'⟩ : ∃ o', w.heap[c.pb]? = some o' := ⟨_, Array.getElem?_eq_getElem (Nat.lt_of_lt_of_le (Array.getElem?_eq_some_iff.1 (st.res (i := 0) rfl)).1 cw.size)⟩
  replace st := St.prsT (b := c.pb) st 0 rfl cw (.inr (Nat.le_trans hw1 hn.le)) ho' (holds_pg hT) hN.2
  dsimp only [setNth] at st
  refine vy (ybd (.agg #[_, _]) []) ?_
  refine vc_e (ests st 5 [_, _, _] sizeOf26 ?_)
  intro w st; dsimp only [setNth, wr] at st
  refine vc_e (est st 4 sizeOf27 ?_)
  intro w st; dsimp only [setNth, wr] at st
  refine vc_e (ests st 3 [_, _] sizeOf29 ?_)
  intro w st; dsimp only [setNth, wr] at st
  refine et (vk3 2 3 4 (vc_ret ?_))
  refine vqd_ret (.inl rfl) call36 (parse_idle [.pointer (some ⟨b2, 0, none⟩), .pointer (some ⟨b3, 0, none⟩), .pointer (some ⟨b4, 0, none⟩)] rfl _) (fun w2 e2 => ?_)
  subst e2
  refine ⟨_, results3 st results10 (.cell 5 rfl rfl isAgg26 sizeOf26) (.cell1 4 rfl rfl isAgg27 rfl) (.cell 3 rfl rfl isAgg29 sizeOf29), _, rfl, st.chg, ?_⟩
  rw [hpr, hq]
  dsimp only
  exact ⟨_, ⟨os, ol, ot, cs, cl, ct, Sq, rfl, (st.res (i := 0) rfl).1, hN.le hw2⟩, rfl⟩
/-- a refusal is caught -/
theorem expr_pan {s : List UInt8} {w0 w : World} {b2 b3 b4 : Nat} {f : Flt} {kn : Kn} (h2 : w.heap[b2]? = some (.cells ex00.toArray 42 (0, 0))) (h3 : w.heap[b3]? = some (.cells [.int .i64 0].toArray 27 (0, 0))) (h4 : w.heap[b4]? = some (.cells [.int .i64 0, .int .i64 0].toArray 29 (0, 0)))
    (n1 : b2 ≠ b3) (n2 : b2 ≠ b4) (n3 : b3 ≠ b4) (l2 : w0.heap.size ≤ b2) (l3 : w0.heap.size ≤ b3) (l4 : w0.heap.size ≤ b4) (ch : Chg [] w0 w) (hpr : exprRes s = (ex0, 30, f.1, f.2))
  (k2 : find kn 2 = some (.pointer (some ⟨b2, 0, none⟩))) (k3 : find kn 3 = some (.pointer (some ⟨b3, 0, none⟩))) (k4 : find kn 4 = some (.pointer (some ⟨b4, 0, none⟩))) :
  PanK (35, [⟨.fn (.func 48) (List.toArray [.pointer (some ⟨b2, 0, none⟩), .pointer (some ⟨b3, 0, none⟩), .pointer (some ⟨b4, 0, none⟩)]), #[]⟩]) kn (bodyPostD Tryz.prog Tryz.f16 fun e w' => ∃ v, e = .returned v ∧ ExprPost s w0 v w') (.iface 75 (.agg #[.int .i64 (f.1 : Int), .int .i64 (f.2 : Int)])) w := by
 refine pan_leave call48 (expr_catch b2 b3 b4 f.1 f.2 _ w h2 h3 h4 n1 n2 n3) (fun w2 hc => ?_)
 obtain ⟨g2, g3, g4, c2⟩ := hc
 have st2 := St.of3 [] g2 g3 g4 n1 n2 n3
 refine ⟨_, results3 st2 results16 (.cell 0 k2 rfl isAgg42 sizeOf42) (.cell1 1 k3 rfl isAgg27 rfl) (.cell 2 k4 rfl isAgg29 sizeOf29), _, rfl, ch.trans' c2 (by simp [l2, l3, l4]), ?_⟩
 rw [hpr]
 exact ⟨_, he_none _ _, rfl⟩
set_option maxHeartbeats 1000000 in
theorem expr_any (s : List UInt8) (w : World) (hsg : SigAt 0 w) : Ret Tryz.prog 16 [str s] w (ExprPost s w) := by
 refine retd_of [_] func16 rfl ntmps16 rfl ?_
 have st := St.init w []
 obtain ⟨w0, rfl⟩ : ∃ w0, w0 = w := ⟨_, rfl⟩
 have h0 : 0 < w0.heap.size := World.block_lt_of_cell? w0 _ (hsg 0 (by omega)).1
 refine sr ?_
 refine vc_e (e_al (l := [_, _, _, _, _, _]) st rfl rfl zeroValue42 rfl ?_)
 intro b2 w hb2 st
 refine vc_e (e_al (l := [_]) st rfl rfl zeroValue27 rfl ?_)
 intro b3 w hb3 st
 refine vc_e (e_al (l := [_, _]) st rfl rfl zeroValue29 rfl ?_)
 intro b4 w hb4 st
 refine et (vk4 0 2 3 4 (sr ?_))
 refine ym ?_
 have n43 := st.bne 0 1 (by decide) rfl rfl
 have n42 := st.bne 0 2 (by decide) rfl rfl
 have n32 := st.bne 1 2 (by decide) rfl rfl
 have n34 := Ne.symm n43
 have n24 := Ne.symm n42
 have n23 := Ne.symm n32
 have hw1 := st.chg.size
 refine vc_e (e_call [_] rfl rfl call35 rfl (begun_any s _ (hsg.kept st.chg (by simp))) ?_)
 rintro _ w ⟨cw, hb⟩
 rcases hb with ⟨hl, rfl⟩ | ⟨hl, ru, pl, hfr, rfl⟩ | ⟨hl, hfr, c, hn, rfl⟩
 ·replace st := st.call0 cw
  have hpr : exprRes s = (ex0, 4, 0, 0) := by simp [exprRes, hl]
  refine ym ?_
  iterate 3 refine vy (y_ext rfl rfl) ?_
  refine ya ?_
  refine vc_e (est st 1 sizeOf27 ?_)
  intro w st; dsimp only [setNth, wr] at st
  refine vc_e (ests st 0 [_, _] sizeOf29 ?_)
  intro w st; dsimp only [setNth, wr] at st
  refine et (vk4 2 3 4 5 (vc_seq (sr ?_)))
  refine yl st 1 isAgg27 ?_
  refine vy (y_nei rfl rfl) ?_
  refine et (vk5 2 3 4 5 14 ?_)
  refine vif ?_ ?_
  ·intro hc14
   try simp only [dn] at hc14
   refine vc_seq ?_
   refine vc_noPan ?_
   refine vdr0 Tryz.mixed [Yt 0, Yt 1, Yt 2, Nt 3, Nt 4, Nt 5] st ?_
   clear st; intro w st hS
   refine vp_take rfl rfl rfl hS (fun w st => y_lda (vs := [_, _, _, _, _, _]) st 2 rfl isAgg42 sizeOf42 rfl rfl) ?_
   refine pld hS 1 isAgg27 ?_
   refine vp_take rfl rfl rfl hS (fun w st => y_lda (vs := [_, _]) st 0 rfl isAgg29 sizeOf29 rfl rfl) ?_
   refine vp_do rfl (ests st 2 [_, _, _, _, _, _] sizeOf42 ?_)
   intro w st; dsimp only [setNth, wr] at st
   refine vp_next (by exact st) ?_; intro hS
   refine vp_do rfl (est st 1 sizeOf27 ?_)
   intro w st; dsimp only [setNth, wr] at st
   refine vp_next (by exact st) ?_; intro hS
   refine vp_do rfl (ests st 0 [_, _] sizeOf29 ?_)
   intro w st; dsimp only [setNth, wr] at st
   refine vp_next (by exact st) ?_; intro hS
   refine vp_end ?_
   refine vq_noPan ?_
   refine vq_then (vk3 2 3 4 (vc_ret (vq_then_ret ?_)))
   refine vqd_post (.inl rfl) (results3 st results16 (.cell 2 rfl rfl isAgg42 sizeOf42) (.cell1 1 rfl rfl isAgg27 rfl) (.cell 0 rfl rfl isAgg29 sizeOf29)) ?_
   refine ⟨_, rfl, st.chg, ?_⟩
   rw [hpr]
   exact ⟨_, he_none _ _, rfl⟩
  intro hc14
  exact absurd hc14 (by decide)
 ·replace st := st.call0 cw
  have hpr : exprRes s = (ex0, 30, pl, 1) := by simp [exprRes, Nat.not_lt.2 hl, hfr]
  refine ym ?_
  iterate 3 refine vy (y_ext rfl rfl) ?_
  refine ya ?_
  refine vc_e (est st 1 sizeOf27 ?_)
  intro w st; dsimp only [setNth, wr] at st
  refine vc_e (ests st 0 [_, _] sizeOf29 ?_)
  intro w st; dsimp only [setNth, wr] at st
  refine et (vk4 2 3 4 5 (vc_seq (sr ?_)))
  refine yl st 1 isAgg27 ?_
  refine vy (y_nei rfl rfl) ?_
  refine et (vk5 2 3 4 5 14 ?_)
  refine vif ?_ ?_
  ·intro hc14
   try simp only [dn] at hc14
   refine vc_seq ?_
   refine vc_noPan ?_
   refine vdr0 Tryz.mixed [Yt 0, Yt 1, Yt 2, Nt 3, Nt 4, Nt 5] st ?_
   clear st; intro w st hS
   refine vp_take rfl rfl rfl hS (fun w st => y_lda (vs := [_, _, _, _, _, _]) st 2 rfl isAgg42 sizeOf42 rfl rfl) ?_
   refine pld hS 1 isAgg27 ?_
   refine vp_take rfl rfl rfl hS (fun w st => y_lda (vs := [_, _]) st 0 rfl isAgg29 sizeOf29 rfl rfl) ?_
   refine vp_do rfl (ests st 2 [_, _, _, _, _, _] sizeOf42 ?_)
   intro w st; dsimp only [setNth, wr] at st
   refine vp_next (by exact st) ?_; intro hS
   refine vp_do rfl (est st 1 sizeOf27 ?_)
   intro w st; dsimp only [setNth, wr] at st
   refine vp_next (by exact st) ?_; intro hS
   refine vp_do rfl (ests st 0 [_, _] sizeOf29 ?_)
   intro w st; dsimp only [setNth, wr] at st
   refine vp_next (by exact st) ?_; intro hS
   refine vp_end ?_
   refine vq_noPan ?_
   refine vq_then (vk3 2 3 4 (vc_ret (vq_then_ret ?_)))
   refine vqd_post (.inl rfl) (results3 st results16 (.cell 2 rfl rfl isAgg42 sizeOf42) (.cell1 1 rfl rfl isAgg27 rfl) (.cell 0 rfl rfl isAgg29 sizeOf29)) ?_
   refine ⟨_, rfl, st.chg, ?_⟩
   rw [hpr]
   exact ⟨_, he_none _ _, rfl⟩
  intro hc14
  exact absurd hc14 (by decide)
 ·replace st := st.pnew cw hn
  have hpr : exprRes s = match exprP c.e 64 c.ts with | .error f => (ex0, 30, f.1, f.2) | .ok (x, r) => if r.length = 0 then (x, 0, 0, 0) else (ex0, 30, atT c.e r, 2) := by
   unfold exprRes; rw [if_neg (by omega), hfr, hn.e, hn.ts]
   try rfl
  refine ym ?_
  iterate 3 refine vy (y_ext rfl rfl) ?_
  refine ya ?_
  refine vc_e (est st 3 sizeOf27 ?_)
  intro w st; dsimp only [setNth, wr] at st
  refine vc_e (ests st 2 [_, _] sizeOf29 ?_)
  intro w st; dsimp only [setNth, wr] at st
  refine et (vk4 2 3 4 5 (vc_seq (sr ?_)))
  refine yl st 3 isAgg27 ?_
  refine vy (y_nei rfl rfl) ?_
  refine et (vk5 2 3 4 5 14 ?_)
  refine vif ?_ ?_
  ·intro hc14
   exact absurd hc14 (by decide)
  intro hc14
  try simp only [dn] at hc14
  refine kt (vk4 2 3 4 5 (sr ?_))
  refine vy (y_mf [] [_, _, _] rfl rfl) ?_
  refine vc_e (e_deferV rfl rfl rfl ?_)
  refine et (vk4 2 3 4 5 (sr ?_))
  refine ym ?_
  refine vc_e (e_callk [_, _] rfl rfl call49 rfl (pexpr_any c hn.R hn.g c.ts (List.suffix_refl _) _ (hn.ok (st.res (i := 1) rfl) (hsg.kept st.chg (by simp)) (st.res (i := 0) rfl) (Nat.lt_of_lt_of_le h0 hw1)) (st.res (i := 0) rfl)) (by
      rintro _ w' ⟨f, hf, rfl, ch⟩
      obtain ⟨o', ho'⟩ : ∃ o', w'.heap[c.pb]? = some o' := ⟨_, Array.getElem?_eq_getElem (Nat.lt_of_lt_of_le (Array.getElem?_eq_some_iff.1 (st.res (i := 0) rfl)).1 ch.size)⟩
      have st' := St.prs (b := c.pb) st 0 rfl ch (.inr (Nat.le_trans hw1 hn.le)) ho'
      dsimp only [setNth] at st'
      rw [show refV c f = .iface 75 (.agg #[.int .i64 (f.1 : Int), .int .i64 (f.2 : Int)]) by rw [refV, hn.R]]
      exact expr_pan (st'.res (i := 4) rfl) (st'.res (i := 3) rfl) (st'.res (i := 2) rfl) n23 n24 n34 hb2 hb3 hb4 st'.chg (by rw [hpr, hf]) rfl rfl rfl) ?_)
  rintro _ w ⟨x, r1, hx, hsf, hln, hP1, cw, oq, cq, Sq, rfl, hT, hN⟩
  have hw2 := st.chg.size
  replace st := St.prsT (b := c.pb) st 0 rfl cw (.inr (Nat.le_trans hw1 hn.le)) hP1 (holds_ex hT) hN.2
  dsimp only [setNth] at st
  rw [hx] at hpr
  dsimp only at hpr
  have hsl := suf_len hsf
  refine vc_e (e_al (l := [_, _, _, _, _, _]) st rfl rfl zeroValue42 rfl ?_)
  intro b6 w hb6 st
  refine vc_e (ests st 0 [_, _, _, _, _, _] sizeOf42 ?_)
  intro w st; dsimp only [setNth, wr] at st
  refine et (vk5 2 3 4 5 6 (vc_seq (vc_seq ?_)))
  refine vc_noPan ?_
  refine vdr0 Tryz.mixed [Yt 0, Yt 1, Yt 2, Yt 3, Yt 4, Yt 5, Yt 6, Yt 7, Yt 8, Yt 9] st ?_
  clear st; intro w st hS
  refine pm hS ?_
  refine pnk hS ?_
  refine pfz hS 1 underlying91 sizeOf3 ?_
  refine pld hS 2 isAgg3 ?_
  refine pm hS ?_
  refine pnk hS ?_
  refine pf0 hS underlying91 sizeOf89 ?_
  refine pld hS 2 isAgg89 ?_
  refine vp_take rfl rfl rfl hS (fun w st => y_lensl rfl underlying89) ?_
  refine vp_take rfl rfl rfl hS (fun w st => y_lss rfl rfl) ?_
  refine vp_end ?_
  refine vq_noPan ?_
  refine vq_then (vk6 2 3 4 5 6 30 ?_)
  refine vif ?_ ?_
  ·intro hc30
   try simp only [dn] at hc30
   have hr0 : 0 < r1.length := by omega
   refine vc_region ?_
   refine ym ?_
   refine vc_e (e_callk [_, _] rfl rfl call50 rfl (pfail_any c 2 r1 hsf _ (hn.ok (st.res (i := 3) rfl) (hsg.kept st.chg (by simp)) (st.res (i := 2) rfl) (Nat.lt_of_lt_of_le h0 hw1)) (st.res (i := 2) rfl) hn.R) (by
       rintro _ w' ⟨rfl, ch⟩
       rw [show refV c (atT c.e r1, 2) = .iface 75 (.agg #[.int .i64 (atT c.e r1 : Int), .int .i64 (2 : Nat)]) by rw [refV, hn.R]]
       have st' := st.call0 ch
       exact expr_pan (f := (atT c.e r1, 2)) (st'.res (i := 6) rfl) (st'.res (i := 5) rfl) (st'.res (i := 4) rfl) n23 n24 n34 hb2 hb3 hb4 st'.chg (by rw [hpr, if_neg (by omega)]) rfl rfl rfl) (fun _ _ h => h.elim))
  intro hc30
  try simp only [dn] at hc30
  have hr0 : r1.length = 0 := by omega
  refine kt (vk4 2 3 4 6 (sr ?_))
  refine yla st 0 [_, _, _, _, _, _] isAgg42 sizeOf42 ?_
  refine vy (ybd (.agg #[_, _]) []) ?_
  refine vc_e (ests st 6 [_, _, _, _, _, _] sizeOf42 ?_)
  intro w st; dsimp only [setNth, wr] at st
  refine vc_e (est st 5 sizeOf27 ?_)
  intro w st; dsimp only [setNth, wr] at st
  refine vc_e (ests st 4 [_, _] sizeOf29 ?_)
  intro w st; dsimp only [setNth, wr] at st
  refine et (vk3 2 3 4 (vc_ret ?_))
  refine vqd_ret (.inl rfl) call48 (expr_idle [.pointer (some ⟨b2, 0, none⟩), .pointer (some ⟨b3, 0, none⟩), .pointer (some ⟨b4, 0, none⟩)] rfl _) (fun w2 e2 => ?_)
  subst e2
  refine ⟨_, results3 st results16 (.cell 6 rfl rfl isAgg42 sizeOf42) (.cell1 5 rfl rfl isAgg27 rfl) (.cell 4 rfl rfl isAgg29 sizeOf29), _, rfl, st.chg, ?_⟩
  rw [hpr, if_pos hr0]
  exact ⟨_, ⟨oq, cq, Sq, rfl, (st.res (i := 1) rfl).1, hN.le hw2⟩, rfl⟩
end Go.Proofs.YtnmhlpnapgojjaaGreatDoor.Pq


/- What is read of a tree that lies in rows. -/
namespace Sx
open Go Go.RowKit
variable {w : World} {S : Nat → Prop}
theorem ExRow.gets {oa : Option Addr} {es : List Ex} (h : ExRow w S oa es) (hne : 0 < es.length) : ∃ b off, oa = some ⟨b, off, none⟩ ∧ ∀ j x, es[j]? = some x → ∃ ok ck, (∀ i v, (exC x ok ck)[i]? = some v → w.cell? ⟨b, off + j * 6 + i, none⟩ = some v) ∧ ExRow w S ok x.kids := by
  obtain ⟨vs, hr, hk⟩ := h
  rcases hr with h0 | ⟨b, off, e, -, -, hc⟩
  · omega
  · refine ⟨b, off, e, fun j x hx => ?_⟩
    have hj : j < es.length := (List.getElem?_eq_some_iff.1 hx).1
    have hv := hk j x hx
    obtain ⟨-, hcell⟩ := hc j hj
    generalize vs j = l at hv hcell
    cases hv with
    | mk vs' hr' hk' => exact ⟨_, _, hcell, _, hr', hk'⟩
theorem SmRow.gets {oa : Option Addr} {es : List Sm} (h : SmRow w S oa es) (hne : 0 < es.length) : ∃ b off, oa = some ⟨b, off, none⟩ ∧ ∀ j x, es[j]? = some x → ∃ oe ob ol ce cb cl, (∀ i v, (smC x oe ob ol ce cb cl)[i]? = some v → w.cell? ⟨b, off + j * 7 + i, none⟩ = some v) ∧ ExRow w S oe x.e ∧ SmRow w S ob x.body ∧ SmRow w S ol x.els := by
  obtain ⟨vs, hr, hk⟩ := h
  rcases hr with h0 | ⟨b, off, e, -, -, hc⟩
  · omega
  · refine ⟨b, off, e, fun j x hx => ?_⟩
    have hj : j < es.length := (List.getElem?_eq_some_iff.1 hx).1
    have hv := hk j x hx
    obtain ⟨-, hcell⟩ := hc j hj
    generalize vs j = l at hv hcell
    cases hv with
    | mk vb vl he hb hbk hl hlk => exact ⟨_, _, _, _, _, _, hcell, he, ⟨_, hb, hbk⟩, _, hl, hlk⟩
theorem ThRow.gets {oa : Option Addr} {es : List Th} (h : ThRow w S oa es) (hne : 0 < es.length) : ∃ b off, oa = some ⟨b, off, none⟩ ∧ ∀ j x, es[j]? = some x → ∃ ol ob cl cb, (∀ i v, (thC x ol ob cl cb)[i]? = some v → w.cell? ⟨b, off + j * 4 + i, none⟩ = some v) ∧ DcRow w S ol x.locals ∧ SmRow w S ob x.body := by
  obtain ⟨vs, hr, hk⟩ := h
  rcases hr with h0 | ⟨b, off, e, -, -, hc⟩
  · omega
  · refine ⟨b, off, e, fun j x hx => ?_⟩
    have hj : j < es.length := (List.getElem?_eq_some_iff.1 hx).1
    obtain ⟨ol, cl, ob, cb, hl, hd, hs⟩ := hk j x hx
    obtain ⟨-, hcell⟩ := hc j hj
    rw [hl] at hcell
    exact ⟨ol, ob, cl, cb, hcell, hd, hs⟩
theorem DcRow.gets {oa : Option Addr} {ds : List Dc} (h : DcRow w S oa ds) (hne : 0 < ds.length) : ∃ b off, oa = some ⟨b, off, none⟩ ∧ ∀ j x, ds[j]? = some x → ∀ i v, (dcL x)[i]? = some v → w.cell? ⟨b, off + j * 3 + i, none⟩ = some v := by
  rcases h with h0 | ⟨b, off, e, -, -, hc⟩
  · omega
  · refine ⟨b, off, e, fun j x hx => ?_⟩
    have hj : j < ds.length := (List.getElem?_eq_some_iff.1 hx).1
    obtain ⟨-, hcell⟩ := hc j hj
    simpa only [List.getD, hx, Option.getD_some] using hcell
theorem pgS_rows {tE tS tD tT : Nat} {p : Pg} {os ol ot : Option Addr} {cs cl ct : Nat} {B : List Nat} (h : PgS tE tS tD tT w p (pgC p os ol ot cs cl ct) B) : DcRow w (fun _ => True) os p.shared ∧ DcRow w (fun _ => True) ol p.locks ∧ ThRow w (fun _ => True) ot p.threads := by
  obtain ⟨os', cs', ol', cl', ot', ct', e, h1, h2, h3⟩ := h.toV (T := fun _ => True) (fun _ _ => trivial)
  simp only [pgC, List.cons.injEq, Value.slice.injEq, and_true, true_and] at e
  obtain ⟨⟨rfl, -⟩, ⟨rfl, -⟩, rfl, -⟩ := e
  exact ⟨h1, h2, h3⟩
end Sx


/- How great a tree is, as Lean counts. -/
namespace Sx
abbrev szo {α : Type} [SizeOf α] (x : α) : Nat := SizeOf.sizeOf x
theorem ex_size {k op wd : Int} {nm : List UInt8} {kids : List Ex} {a : Int} : szo kids < szo (Ex.mk k op wd nm kids a) := by
  simp only [szo, Ex.mk.sizeOf_spec]; omega
theorem mem_size {α : Type} [SizeOf α] {l : List α} {j : Nat} {x : α} (h : l[j]? = some x) : szo x < szo l := List.sizeOf_lt_of_mem (List.mem_of_getElem? h)
theorem sm_size {k : Int} {nm other : List UInt8} {e : List Ex} {body els : List Sm} {a : Int} : szo body < szo (Sm.mk k nm other e body els a) ∧ szo els < szo (Sm.mk k nm other e body els a) := by
  simp only [szo, Sm.mk.sizeOf_spec]; omega
theorem szo_kids (e : Ex) : szo e.kids < szo e := by cases e; exact ex_size
end Sx


namespace Go.Proofs.YtnmhlpnapgojjaaGreatDoor.Pq
open Go.RowKit Sx LexS ParS _root_.Go.Proofs.Tryz
section
variable {S : Nat → Prop}

theorem psameD_any (x y : Dc) (w : World) : Ret Tryz.prog 78 [.agg (dcL x).toArray, .agg (dcL y).toArray] w fun v w' => v = .bool (sameD x y) ∧ Chg [] w w' := by
 refine ret_of [_, _] func78 rfl ntmps78 rfl ?_
 have st := St.init w []
 obtain ⟨w0, rfl⟩ : ∃ w0, w0 = w := ⟨_, rfl⟩
 refine sr ?_
 refine vc_e (e_bx (l := [_, _, _]) st rfl rfl rfl rfl ?_)
 intro b2 w hb2 st
 refine vc_e (e_bx (l := [_, _, _]) st rfl rfl rfl rfl ?_)
 intro b3 w hb3 st
 refine ya ?_
 refine et (vk2 2 3 (sr ?_))
 refine vy (y_fa0 rfl underlying63 rfl rfl sizeOf9 rfl) ?_
 refine yl st 1 isAgg9 ?_
 refine vy (y_fa0 rfl underlying63 rfl rfl sizeOf9 rfl) ?_
 refine yl st 0 isAgg9 ?_
 refine vy (y_eqs rfl rfl) ?_
 refine vmb ?_ ?_
 intro hg10
 try simp only [dn] at hg10
 refine yfz 1 underlying63 sizeOf2 ?_
 refine yl st 1 isAgg2 ?_
 refine yfz 1 underlying63 sizeOf2 ?_
 refine yl st 0 isAgg2 ?_
 refine vy (y_eqi rfl rfl) ?_
 refine ypt ?_
 rotate_left
 intro hg10
 try simp only [dn] at hg10
 iterate 5 refine vsk ?_
 refine ypf ?_
 all_goals
  refine ya ?_
  refine et (vk1 4 (vc_ret ?_))
  refine vr1 st results78 ?_
  refine ⟨?_, st.chg⟩
  unfold sameD
  clear st
  (congr 1; simp_all)
theorem pdecls_any (a b : List Dc) (oa ob : Option Addr) (ca cb : Nat) (w : World) (hA : DcRow w S oa a) (hB : DcRow w S ob b) (hn : a.length ≤ 1099511627776) :
    Ret Tryz.prog 77 [.slice oa a.length ca, .slice ob b.length cb, .func (.func 78) #[] #[]] w fun v w' => v = .bool (zipA sameD a b) ∧ Chg [] w w' := by
 refine ret_of [_, _, _] func77 rfl ntmps77 rfl ?_
 have st := St.init w []
 obtain ⟨w0, rfl⟩ : ∃ w0, w0 = w := ⟨_, rfl⟩
 refine sr ?_
 refine ya ?_
 refine et (vk3 0 1 2 (vc_seq (sr ?_)))
 refine ym ?_
 refine vy (y_lensl rfl underlying23) ?_
 refine ym ?_
 refine vy (y_lensl rfl underlying23) ?_
 refine vy (y_nei rfl rfl) ?_
 refine et (vk4 0 1 2 12 ?_)
 refine vif ?_ ?_
 ·intro hc12
  try simp only [dn] at hc12
  refine sr ?_
  refine ya ?_
  refine et (vk1 6 (vc_ret (vq_then_ret ?_)))
  refine vr1 st results77 ?_
  refine ⟨?_, st.chg⟩
  rw [zipA_len (by omega)]
 intro hc12
 try simp only [dn] at hc12
 have hlen : a.length = b.length := by omega
 refine kt (vk3 0 1 2 (vc_seq (sr ?_)))
 refine ym ?_
 refine vy (y_lensl rfl underlying23) ?_
 refine ym ?_
 refine et (vk5 0 1 2 14 15 (vc_block ?_))
 refine vc_loop (w0 := w0) (M := []) (fun (j : Nat) => [(0, .slice oa a.length ca), (1, .slice ob b.length cb), (2, .func (.func 78) #[] #[]), (14, .int .i64 (a.length : Int)), (15, .int .i64 (j : Int))]) (fun _ => []) (fun j _ => j ≤ a.length ∧ ∀ (i : Nat) x y, i < j → a[i]? = some x → b[i]? = some y → sameD x y = true) (fun j => a.length - j) 0 ⟨rfl, rfl, rfl, rfl, rfl, trivial⟩ (st.dr) ⟨by omega, fun i x y h => by omega⟩ ?_
 clear st
 rintro j w ⟨hj, hall⟩ st
 refine sr ?_
 refine vy (y_lss rfl rfl) ?_
 refine et (vk6 0 1 2 14 15 16 (vc_seq ?_))
 refine vif ?_ ?_
 ·intro hc16
  try simp only [dn] at hc16
  obtain ⟨x, hx⟩ : ∃ x, a[j]? = some x := ⟨_, List.getElem?_eq_getElem (by omega)⟩
  obtain ⟨y, hy⟩ : ∃ y, b[j]? = some y := ⟨_, List.getElem?_eq_getElem (by omega)⟩
  obtain ⟨gb, go, rfl, hg⟩ := DcRow.gets hA (by omega)
  obtain ⟨fb, fo, rfl, hf⟩ := DcRow.gets hB (by omega)
  have hc := hg j x hx
  have hd := hf j y hy
  refine kt (vk5 0 1 2 14 15 (vc_seq (vc_block (sr ?_))))
  refine ym ?_
  refine ya ?_
  refine et (vk6 0 1 2 7 14 15 (vc_seq ?_))
  refine vdr0 Tryz.mixed [Yt 0, Yt 1, Yt 2, Yt 3, Yt 4, Yt 5, Yt 6, Yt 7, Yt 8, Nt 9, Yt 10] st ?_
  clear st; intro w st hS
  iterate 3 refine pm hS ?_
  refine vp_take rfl rfl rfl hS (fun w st => y_ia (k := j) rfl rfl underlying23 sizeOf63 rfl (by omega)) ?_
  refine vp_take rfl rfl rfl hS (fun w st => y_ldca (dcL x) rfl isAgg63 sizeOf63 rfl (fun i v hi => st.chg.cell (hc i v hi) (by simp))) ?_
  iterate 2 refine pm hS ?_
  refine vp_take rfl rfl rfl hS (fun w st => y_ia (k := j) rfl rfl underlying23 sizeOf63 rfl (by omega)) ?_
  refine vp_take rfl rfl rfl hS (fun w st => y_ldca (dcL y) rfl isAgg63 sizeOf63 rfl (fun i v hi => st.chg.cell (hd i v hi) (by simp))) ?_
  refine vp_do rfl (e_callv [_, _] rfl rfl rfl call78 rfl (psameD_any x y _) ?_)
  rintro _ w ⟨rfl, cw⟩
  replace st := st.call0 cw
  refine vp_next (by exact st) ?_; intro hS
  refine vp_take rfl rfl rfl hS (fun w st => y_not rfl) ?_
  refine vp_end (vq_then (vk6 0 1 2 14 15 28 ?_))
  refine vif ?_ ?_
  ·intro hc28
   try simp only [dn] at hc28
   refine sr ?_
   refine ya ?_
   refine et (vk1 6 (vc_ret (vq_block_ret (vq_then_ret (vq_then_ret (vq_block_ret (vq_then_ret ?_)))))))
   refine vr1 st results77 ?_
   refine ⟨?_, st.chg⟩
   rw [zipA_no hx hy (by assumption)]
  intro hc28
  try simp only [dn] at hc28
  refine vc_code_skip (vq_block (vq_then (vk5 0 1 2 14 15 (vc_region ?_))))
  refine vy (y_add rfl rfl (by omega : _ = ((j + 1 : Nat) : Int)) (by omega) (by omega)) ?_
  refine ym ?_
  refine vc_end ?_
  refine vq_again (j + 1)  ⟨rfl, rfl, rfl, rfl, rfl, trivial⟩ (st.dr) ?_ ?_
  ·exact ⟨by omega, fun i x' y' hi h1 h2 => by
       rcases (by omega : i < j ∨ i = j) with h | rfl
       · exact hall i x' y' h h1 h2
       · rw [hx] at h1; rw [hy] at h2; cases h1; cases h2; assumption⟩
  omega
 intro hc16
 try simp only [dn] at hc16
 refine vc_exit (vq_then_exit (vq_then_exit (vq_block_exit (vq_then (vc_keep [] trivial (sr ?_))))))
 refine ya ?_
 refine et (vk1 6 (vc_ret ?_))
 refine vr1 st results77 ?_
 refine ⟨?_, st.chg⟩
 rw [zipA_yes hlen fun i x y hi h1 h2 => hall i x y (by omega) h1 h2]
theorem psameE_of (e y : Ex) (o o' : Option Addr) (c c' : Nat) (w : World) (hr : ExRow w S o e.kids) (hr' : ExRow w S o' y.kids)
    (hrec : ∀ w, ExRow w S o e.kids → ExRow w S o' y.kids → Ret Tryz.prog 143 [.slice o e.kids.length c, .slice o' y.kids.length c', .func (.func 144) #[] #[]] w fun v w' => v = .bool (zipA sameE e.kids y.kids) ∧ Chg [] w w') :
  Ret Tryz.prog 144 [.agg (exC e o c).toArray, .agg (exC y o' c').toArray] w fun v w' => v = .bool (sameE e y) ∧ Chg [] w w' := by
 refine ret_of [_, _] func144 rfl ntmps144 rfl ?_
 have st := St.init w []
 obtain ⟨w0, rfl⟩ : ∃ w0, w0 = w := ⟨_, rfl⟩
 refine sr ?_
 refine vc_e (e_bx (l := [_, _, _, _, _, _]) st rfl rfl rfl rfl ?_)
 intro b2 w hb2 st
 refine vc_e (e_bx (l := [_, _, _, _, _, _]) st rfl rfl rfl rfl ?_)
 intro b3 w hb3 st
 refine ya ?_
 refine et (vk2 2 3 (sr ?_))
 refine vy (y_fa0 rfl underlying42 rfl rfl sizeOf38 rfl) ?_
 refine yl st 1 isAgg38 ?_
 refine vy (y_fa0 rfl underlying42 rfl rfl sizeOf38 rfl) ?_
 refine yl st 0 isAgg38 ?_
 refine vy (y_eqi rfl rfl) ?_
 refine vmb ?_ ?_
 focus
  intro hg10
  try simp only [dn] at hg10
  refine yfz 1 underlying42 sizeOf39 ?_
  refine yl st 1 isAgg39 ?_
  refine yfz 1 underlying42 sizeOf39 ?_
  refine yl st 0 isAgg39 ?_
  refine vy (y_eqi rfl rfl) ?_
  refine ypt ?_
  refine vmb ?_ ?_
  focus
   intro hg17
   try simp only [dn] at hg17
   refine yfz 2 underlying42 sizeOf2 ?_
   refine yl st 1 isAgg2 ?_
   refine yfz 2 underlying42 sizeOf2 ?_
   refine yl st 0 isAgg2 ?_
   refine vy (y_eqi rfl rfl) ?_
   refine ypt ?_
   refine vmb ?_ ?_
   focus
    intro hg24
    try simp only [dn] at hg24
    refine yfz 3 underlying42 sizeOf9 ?_
    refine yl st 1 isAgg9 ?_
    refine yfz 3 underlying42 sizeOf9 ?_
    refine yl st 0 isAgg9 ?_
    refine vy (y_eqs rfl rfl) ?_
    refine ypt ?_
    refine vmb ?_ ?_
    intro hg31
    try simp only [dn] at hg31
    refine yfz 4 underlying42 sizeOf40 ?_
    refine yl st 1 isAgg40 ?_
    refine yfz 4 underlying42 sizeOf40 ?_
    refine yl st 0 isAgg40 ?_
    refine vc_e (e_call [_, _, _] rfl rfl call143 rfl (hrec _ (hr.kept st.sm) (hr'.kept st.sm)) ?_)
    rintro _ w ⟨rfl, cw⟩
    replace st := st.call0 cw
    refine ypt ?_
    rotate_left
    intro hg31
    try simp only [dn] at hg31
    iterate 5 refine vsk ?_
    refine ypf ?_
   rotate_left 2
   intro hg24
   try simp only [dn] at hg24
   iterate 5 refine vsk ?_
   refine ypf ?_
   refine ym ?_
   iterate 5 refine vsk ?_
   refine ypf ?_
  rotate_left 3
  intro hg17
  try simp only [dn] at hg17
  iterate 5 refine vsk ?_
  refine ypf ?_
  refine ym ?_
  iterate 5 refine vsk ?_
  refine ypf ?_
  refine ym ?_
  iterate 5 refine vsk ?_
  refine ypf ?_
 rotate_left 4
 intro hg10
 try simp only [dn] at hg10
 iterate 5 refine vsk ?_
 refine ypf ?_
 refine ym ?_
 iterate 5 refine vsk ?_
 refine ypf ?_
 refine ym ?_
 iterate 5 refine vsk ?_
 refine ypf ?_
 refine ym ?_
 iterate 5 refine vsk ?_
 refine ypf ?_
 all_goals
  refine ya ?_
  refine et (vk1 4 (vc_ret ?_))
  refine vr1 st results144 ?_
  refine ⟨?_, st.chg⟩
  rw [sameE_eq]
  first
   | (rw [show decide (e.k = y.k ∧ e.op = y.op ∧ e.wd = y.wd ∧ e.nm = y.nm) = false from by
       simp only [decide_eq_false_iff_not]
       rintro ⟨q1, q2, q3, q4⟩
       simp_all]
      rfl)
   | (rw [show decide (e.k = y.k ∧ e.op = y.op ∧ e.wd = y.wd ∧ e.nm = y.nm) = true from by simp_all, Bool.true_and])
theorem pexprs_any : ∀ (n : Nat) (a : List Ex), szo a = n → OkEs a → ∀ (b : List Ex) (oa ob : Option Addr) (ca cb : Nat) (w : World), ExRow w S oa a → ExRow w S ob b →
    Ret Tryz.prog 143 [.slice oa a.length ca, .slice ob b.length cb, .func (.func 144) #[] #[]] w fun v w' => v = .bool (zipA sameE a b) ∧ Chg [] w w' := by
 intro n
 refine Nat.strongRecOn n fun n ih => ?_
 intro a hn hok b oa ob ca cb w hA hB
 subst hn
 have hn := hok.1
 refine ret_of [_, _, _] func143 rfl ntmps143 rfl ?_
 have st := St.init w []
 obtain ⟨w0, rfl⟩ : ∃ w0, w0 = w := ⟨_, rfl⟩
 refine sr ?_
 refine ya ?_
 refine et (vk3 0 1 2 (vc_seq (sr ?_)))
 refine ym ?_
 refine vy (y_lensl rfl underlying40) ?_
 refine ym ?_
 refine vy (y_lensl rfl underlying40) ?_
 refine vy (y_nei rfl rfl) ?_
 refine et (vk4 0 1 2 12 ?_)
 refine vif ?_ ?_
 ·intro hc12
  try simp only [dn] at hc12
  refine sr ?_
  refine ya ?_
  refine et (vk1 6 (vc_ret (vq_then_ret ?_)))
  refine vr1 st results143 ?_
  refine ⟨?_, st.chg⟩
  rw [zipA_len (by omega)]
 intro hc12
 try simp only [dn] at hc12
 have hlen : a.length = b.length := by omega
 refine kt (vk3 0 1 2 (vc_seq (sr ?_)))
 refine ym ?_
 refine vy (y_lensl rfl underlying40) ?_
 refine ym ?_
 refine et (vk5 0 1 2 14 15 (vc_block ?_))
 refine vc_loop (w0 := w0) (M := []) (fun (j : Nat) => [(0, .slice oa a.length ca), (1, .slice ob b.length cb), (2, .func (.func 144) #[] #[]), (14, .int .i64 (a.length : Int)), (15, .int .i64 (j : Int))]) (fun _ => []) (fun j _ => j ≤ a.length ∧ ∀ (i : Nat) x y, i < j → a[i]? = some x → b[i]? = some y → sameE x y = true) (fun j => a.length - j) 0 ⟨rfl, rfl, rfl, rfl, rfl, trivial⟩ (st.dr) ⟨by omega, fun i x y h => by omega⟩ ?_
 clear st
 rintro j w ⟨hj, hall⟩ st
 refine sr ?_
 refine vy (y_lss rfl rfl) ?_
 refine et (vk6 0 1 2 14 15 16 (vc_seq ?_))
 refine vif ?_ ?_
 ·intro hc16
  try simp only [dn] at hc16
  obtain ⟨x, hx⟩ : ∃ x, a[j]? = some x := ⟨_, List.getElem?_eq_getElem (by omega)⟩
  obtain ⟨y, hy⟩ : ∃ y, b[j]? = some y := ⟨_, List.getElem?_eq_getElem (by omega)⟩
  obtain ⟨gb, go, rfl, hg⟩ := ExRow.gets hA (by omega)
  obtain ⟨fb, fo, rfl, hf⟩ := ExRow.gets hB (by omega)
  obtain ⟨o0, c0, hc, hr0⟩ := hg j x hx
  obtain ⟨o1, c1, hd, hr1⟩ := hf j y hy
  have hkx := hok.2 j x hx
  have hz := mem_size hx
  have hz2 : szo x.kids < szo a := by have := szo_kids x; omega
  refine kt (vk5 0 1 2 14 15 (vc_seq (vc_block (sr ?_))))
  refine ym ?_
  refine ya ?_
  refine et (vk6 0 1 2 7 14 15 (vc_seq ?_))
  refine vdr0 Tryz.mixed [Yt 0, Yt 1, Yt 2, Yt 3, Yt 4, Yt 5, Yt 6, Yt 7, Yt 8, Nt 9, Yt 10] st ?_
  clear st; intro w st hS
  iterate 3 refine pm hS ?_
  refine vp_take rfl rfl rfl hS (fun w st => y_ia (k := j) rfl rfl underlying40 sizeOf42 rfl (by omega)) ?_
  refine vp_take rfl rfl rfl hS (fun w st => y_ldca (exC x o0 c0) rfl isAgg42 sizeOf42 rfl (fun i v hi => st.chg.cell (hc i v hi) (by simp))) ?_
  iterate 2 refine pm hS ?_
  refine vp_take rfl rfl rfl hS (fun w st => y_ia (k := j) rfl rfl underlying40 sizeOf42 rfl (by omega)) ?_
  refine vp_take rfl rfl rfl hS (fun w st => y_ldca (exC y o1 c1) rfl isAgg42 sizeOf42 rfl (fun i v hi => st.chg.cell (hd i v hi) (by simp))) ?_
  refine vp_do rfl (e_callv [_, _] rfl rfl rfl call144 rfl (psameE_of x y o0 o1 c0 c1 _ (hr0.kept st.sm) (hr1.kept st.sm) (fun w h1 h2 => ih _ hz2 x.kids rfl hkx.kids y.kids _ _ _ _ w h1 h2)) ?_)
  rintro _ w ⟨rfl, cw⟩
  replace st := st.call0 cw
  refine vp_next (by exact st) ?_; intro hS
  refine vp_take rfl rfl rfl hS (fun w st => y_not rfl) ?_
  refine vp_end (vq_then (vk6 0 1 2 14 15 28 ?_))
  refine vif ?_ ?_
  ·intro hc28
   try simp only [dn] at hc28
   refine sr ?_
   refine ya ?_
   refine et (vk1 6 (vc_ret (vq_block_ret (vq_then_ret (vq_then_ret (vq_block_ret (vq_then_ret ?_)))))))
   refine vr1 st results143 ?_
   refine ⟨?_, st.chg⟩
   rw [zipA_no hx hy (by assumption)]
  intro hc28
  try simp only [dn] at hc28
  refine vc_code_skip (vq_block (vq_then (vk5 0 1 2 14 15 (vc_region ?_))))
  refine vy (y_add rfl rfl (by omega : _ = ((j + 1 : Nat) : Int)) (by omega) (by omega)) ?_
  refine ym ?_
  refine vc_end ?_
  refine vq_again (j + 1)  ⟨rfl, rfl, rfl, rfl, rfl, trivial⟩ (st.dr) ?_ ?_
  ·exact ⟨by omega, fun i x' y' hi h1 h2 => by
       rcases (by omega : i < j ∨ i = j) with h | rfl
       · exact hall i x' y' h h1 h2
       · rw [hx] at h1; rw [hy] at h2; cases h1; cases h2; assumption⟩
  omega
 intro hc16
 try simp only [dn] at hc16
 refine vc_exit (vq_then_exit (vq_then_exit (vq_block_exit (vq_then (vc_keep [] trivial (sr ?_))))))
 refine ya ?_
 refine et (vk1 6 (vc_ret ?_))
 refine vr1 st results143 ?_
 refine ⟨?_, st.chg⟩
 rw [zipA_yes hlen fun i x y hi h1 h2 => hall i x y (by omega) h1 h2]
set_option maxHeartbeats 1000000 in
theorem psameS_of (x y : Sm) (hok : OkS x) (oe ob ol oe' ob' ol' : Option Addr) (ce cb cl ce' cb' cl' : Nat) (w : World) (he : ExRow w S oe x.e) (hb : SmRow w S ob x.body) (hl : SmRow w S ol x.els) (he' : ExRow w S oe' y.e) (hb' : SmRow w S ob' y.body) (hl' : SmRow w S ol' y.els)
    (ihb : ∀ w, SmRow w S ob x.body → SmRow w S ob' y.body → Ret Tryz.prog 81 [.slice ob x.body.length cb, .slice ob' y.body.length cb', .func (.func 82) #[] #[]] w fun v w' => v = .bool (zipA sameS x.body y.body) ∧ Chg [] w w')
  (ihl : ∀ w, SmRow w S ol x.els → SmRow w S ol' y.els → Ret Tryz.prog 81 [.slice ol x.els.length cl, .slice ol' y.els.length cl', .func (.func 82) #[] #[]] w fun v w' => v = .bool (zipA sameS x.els y.els) ∧ Chg [] w w') :
  Ret Tryz.prog 82 [.agg (smC x oe ob ol ce cb cl).toArray, .agg (smC y oe' ob' ol' ce' cb' cl').toArray] w fun v w' => v = .bool (sameS x y) ∧ Chg [] w w' := by
 refine ret_of [_, _] func82 rfl ntmps82 rfl ?_
 have st := St.init w []
 obtain ⟨w0, rfl⟩ : ∃ w0, w0 = w := ⟨_, rfl⟩
 refine sr ?_
 refine vc_e (e_bx (l := [_, _, _, _, _, _, _]) st rfl rfl rfl rfl ?_)
 intro b2 w hb2 st
 refine vc_e (e_bx (l := [_, _, _, _, _, _, _]) st rfl rfl rfl rfl ?_)
 intro b3 w hb3 st
 refine ya ?_
 refine et (vk2 2 3 (sr ?_))
 refine vy (y_fa0 rfl underlying67 rfl rfl sizeOf64 rfl) ?_
 refine yl st 1 isAgg64 ?_
 refine vy (y_fa0 rfl underlying67 rfl rfl sizeOf64 rfl) ?_
 refine yl st 0 isAgg64 ?_
 refine vy (y_eqi rfl rfl) ?_
 refine vmb ?_ ?_
 focus
  intro hg10
  try simp only [dn] at hg10
  refine yfz 1 underlying67 sizeOf9 ?_
  refine yl st 1 isAgg9 ?_
  refine yfz 1 underlying67 sizeOf9 ?_
  refine yl st 0 isAgg9 ?_
  refine vy (y_eqs rfl rfl) ?_
  refine ypt ?_
  refine vmb ?_ ?_
  focus
   intro hg17
   try simp only [dn] at hg17
   refine yfz 2 underlying67 sizeOf9 ?_
   refine yl st 1 isAgg9 ?_
   refine yfz 2 underlying67 sizeOf9 ?_
   refine yl st 0 isAgg9 ?_
   refine vy (y_eqs rfl rfl) ?_
   refine ypt ?_
   refine vmb ?_ ?_
   focus
    intro hg24
    try simp only [dn] at hg24
    refine yfz 3 underlying67 sizeOf40 ?_
    refine yl st 1 isAgg40 ?_
    refine yfz 3 underlying67 sizeOf40 ?_
    refine yl st 0 isAgg40 ?_
    refine vc_e (e_call [_, _, _] rfl rfl call143 rfl (pexprs_any _ x.e rfl hok.e y.e _ _ _ _ _ (he.kept st.sm) (he'.kept st.sm)) ?_)
    rintro _ w ⟨rfl, cw⟩
    replace st := st.call0 cw
    refine ypt ?_
    refine vmb ?_ ?_
    focus
     intro hg31
     try simp only [dn] at hg31
     refine yfz 4 underlying67 sizeOf65 ?_
     refine yl st 1 isAgg65 ?_
     refine yfz 4 underlying67 sizeOf65 ?_
     refine yl st 0 isAgg65 ?_
     refine vc_e (e_call [_, _, _] rfl rfl call81 rfl (ihb _ (hb.kept st.sm) (hb'.kept st.sm)) ?_)
     rintro _ w ⟨rfl, cw⟩
     replace st := st.call0 cw
     refine ypt ?_
     refine vmb ?_ ?_
     intro hg38
     try simp only [dn] at hg38
     refine yfz 5 underlying67 sizeOf65 ?_
     refine yl st 1 isAgg65 ?_
     refine yfz 5 underlying67 sizeOf65 ?_
     refine yl st 0 isAgg65 ?_
     refine vc_e (e_call [_, _, _] rfl rfl call81 rfl (ihl _ (hl.kept st.sm) (hl'.kept st.sm)) ?_)
     rintro _ w ⟨rfl, cw⟩
     replace st := st.call0 cw
     refine ypt ?_
     rotate_left
     intro hg38
     try simp only [dn] at hg38
     iterate 5 refine vsk ?_
     refine ypf ?_
    rotate_left 2
    intro hg31
    try simp only [dn] at hg31
    iterate 5 refine vsk ?_
    refine ypf ?_
    refine ym ?_
    iterate 5 refine vsk ?_
    refine ypf ?_
   rotate_left 3
   intro hg24
   try simp only [dn] at hg24
   iterate 5 refine vsk ?_
   refine ypf ?_
   refine ym ?_
   iterate 5 refine vsk ?_
   refine ypf ?_
   refine ym ?_
   iterate 5 refine vsk ?_
   refine ypf ?_
  rotate_left 4
  intro hg17
  try simp only [dn] at hg17
  iterate 5 refine vsk ?_
  refine ypf ?_
  refine ym ?_
  iterate 5 refine vsk ?_
  refine ypf ?_
  refine ym ?_
  iterate 5 refine vsk ?_
  refine ypf ?_
  refine ym ?_
  iterate 5 refine vsk ?_
  refine ypf ?_
 rotate_left 5
 intro hg10
 try simp only [dn] at hg10
 iterate 5 refine vsk ?_
 refine ypf ?_
 refine ym ?_
 iterate 5 refine vsk ?_
 refine ypf ?_
 refine ym ?_
 iterate 5 refine vsk ?_
 refine ypf ?_
 refine ym ?_
 iterate 5 refine vsk ?_
 refine ypf ?_
 refine ym ?_
 iterate 5 refine vsk ?_
 refine ypf ?_
 all_goals
  refine ya ?_
  refine et (vk1 4 (vc_ret ?_))
  refine vr1 st results82 ?_
  refine ⟨?_, st.chg⟩
  rw [sameS_eq]
  clear st
  simp_all
set_option maxHeartbeats 1000000 in
theorem pstmts_any : ∀ (n : Nat) (a : List Sm), szo a = n → OkSs a → ∀ (b : List Sm) (oa ob : Option Addr) (ca cb : Nat) (w : World), SmRow w S oa a → SmRow w S ob b →
    Ret Tryz.prog 81 [.slice oa a.length ca, .slice ob b.length cb, .func (.func 82) #[] #[]] w fun v w' => v = .bool (zipA sameS a b) ∧ Chg [] w w' := by
 intro n
 refine Nat.strongRecOn n fun n ih => ?_
 intro a hn hok b oa ob ca cb w hA hB
 subst hn
 have hn := hok.1
 refine ret_of [_, _, _] func81 rfl ntmps81 rfl ?_
 have st := St.init w []
 obtain ⟨w0, rfl⟩ : ∃ w0, w0 = w := ⟨_, rfl⟩
 refine sr ?_
 refine ya ?_
 refine et (vk3 0 1 2 (vc_seq (sr ?_)))
 refine ym ?_
 refine vy (y_lensl rfl underlying65) ?_
 refine ym ?_
 refine vy (y_lensl rfl underlying65) ?_
 refine vy (y_nei rfl rfl) ?_
 refine et (vk4 0 1 2 12 ?_)
 refine vif ?_ ?_
 ·intro hc12
  try simp only [dn] at hc12
  refine sr ?_
  refine ya ?_
  refine et (vk1 6 (vc_ret (vq_then_ret ?_)))
  refine vr1 st results81 ?_
  refine ⟨?_, st.chg⟩
  rw [zipA_len (by omega)]
 intro hc12
 try simp only [dn] at hc12
 have hlen : a.length = b.length := by omega
 refine kt (vk3 0 1 2 (vc_seq (sr ?_)))
 refine ym ?_
 refine vy (y_lensl rfl underlying65) ?_
 refine ym ?_
 refine et (vk5 0 1 2 14 15 (vc_block ?_))
 refine vc_loop (w0 := w0) (M := []) (fun (j : Nat) => [(0, .slice oa a.length ca), (1, .slice ob b.length cb), (2, .func (.func 82) #[] #[]), (14, .int .i64 (a.length : Int)), (15, .int .i64 (j : Int))]) (fun _ => []) (fun j _ => j ≤ a.length ∧ ∀ (i : Nat) x y, i < j → a[i]? = some x → b[i]? = some y → sameS x y = true) (fun j => a.length - j) 0 ⟨rfl, rfl, rfl, rfl, rfl, trivial⟩ (st.dr) ⟨by omega, fun i x y h => by omega⟩ ?_
 clear st
 rintro j w ⟨hj, hall⟩ st
 refine sr ?_
 refine vy (y_lss rfl rfl) ?_
 refine et (vk6 0 1 2 14 15 16 (vc_seq ?_))
 refine vif ?_ ?_
 ·intro hc16
  try simp only [dn] at hc16
  obtain ⟨x, hx⟩ : ∃ x, a[j]? = some x := ⟨_, List.getElem?_eq_getElem (by omega)⟩
  obtain ⟨y, hy⟩ : ∃ y, b[j]? = some y := ⟨_, List.getElem?_eq_getElem (by omega)⟩
  obtain ⟨gb, go, rfl, hg⟩ := SmRow.gets hA (by omega)
  obtain ⟨fb, fo, rfl, hf⟩ := SmRow.gets hB (by omega)
  obtain ⟨oe, obb, ol, ce, cbb, cl, hc, hse, hsb, hsl⟩ := hg j x hx
  obtain ⟨oe', obb', ol', ce', cbb', cl', hd, hse', hsb', hsl'⟩ := hf j y hy
  have hkx := hok.2 j x hx
  have hz := mem_size hx
  have hB2 : szo x.body < szo a := by
   have : szo x.body < szo x := by cases x; exact sm_size.1
   omega
  have hL2 : szo x.els < szo a := by
   have : szo x.els < szo x := by cases x; exact sm_size.2
   omega
  refine kt (vk5 0 1 2 14 15 (vc_seq (vc_block (sr ?_))))
  refine ym ?_
  refine ya ?_
  refine et (vk6 0 1 2 7 14 15 (vc_seq ?_))
  refine vdr0 Tryz.mixed [Yt 0, Yt 1, Yt 2, Yt 3, Yt 4, Yt 5, Yt 6, Yt 7, Yt 8, Nt 9, Yt 10] st ?_
  clear st; intro w st hS
  iterate 3 refine pm hS ?_
  refine vp_take rfl rfl rfl hS (fun w st => y_ia (k := j) rfl rfl underlying65 sizeOf67 rfl (by omega)) ?_
  refine vp_take rfl rfl rfl hS (fun w st => y_ldca (smC x oe obb ol ce cbb cl) rfl isAgg67 sizeOf67 rfl (fun i v hi => st.chg.cell (hc i v hi) (by simp))) ?_
  iterate 2 refine pm hS ?_
  refine vp_take rfl rfl rfl hS (fun w st => y_ia (k := j) rfl rfl underlying65 sizeOf67 rfl (by omega)) ?_
  refine vp_take rfl rfl rfl hS (fun w st => y_ldca (smC y oe' obb' ol' ce' cbb' cl') rfl isAgg67 sizeOf67 rfl (fun i v hi => st.chg.cell (hd i v hi) (by simp))) ?_
  refine vp_do rfl (e_callv [_, _] rfl rfl rfl call82 rfl (psameS_of x y hkx oe obb ol oe' obb' ol' ce cbb cl ce' cbb' cl' _ (hse.kept st.sm) (hsb.kept st.sm) (hsl.kept st.sm) (hse'.kept st.sm) (hsb'.kept st.sm) (hsl'.kept st.sm) (fun w h1 h2 => ih _ hB2 x.body rfl hkx.body y.body _ _ _ _ w h1 h2) (fun w h1 h2 => ih _ hL2 x.els rfl hkx.els y.els _ _ _ _ w h1 h2)) ?_)
  rintro _ w ⟨rfl, cw⟩
  replace st := st.call0 cw
  refine vp_next (by exact st) ?_; intro hS
  refine vp_take rfl rfl rfl hS (fun w st => y_not rfl) ?_
  refine vp_end (vq_then (vk6 0 1 2 14 15 28 ?_))
  refine vif ?_ ?_
  ·intro hc28
   try simp only [dn] at hc28
   refine sr ?_
   refine ya ?_
   refine et (vk1 6 (vc_ret (vq_block_ret (vq_then_ret (vq_then_ret (vq_block_ret (vq_then_ret ?_)))))))
   refine vr1 st results81 ?_
   refine ⟨?_, st.chg⟩
   rw [zipA_no hx hy (by assumption)]
  intro hc28
  try simp only [dn] at hc28
  refine vc_code_skip (vq_block (vq_then (vk5 0 1 2 14 15 (vc_region ?_))))
  refine vy (y_add rfl rfl (by omega : _ = ((j + 1 : Nat) : Int)) (by omega) (by omega)) ?_
  refine ym ?_
  refine vc_end ?_
  refine vq_again (j + 1)  ⟨rfl, rfl, rfl, rfl, rfl, trivial⟩ (st.dr) ?_ ?_
  ·exact ⟨by omega, fun i x' y' hi h1 h2 => by
       rcases (by omega : i < j ∨ i = j) with h | rfl
       · exact hall i x' y' h h1 h2
       · rw [hx] at h1; rw [hy] at h2; cases h1; cases h2; assumption⟩
  omega
 intro hc16
 try simp only [dn] at hc16
 refine vc_exit (vq_then_exit (vq_then_exit (vq_block_exit (vq_then (vc_keep [] trivial (sr ?_))))))
 refine ya ?_
 refine et (vk1 6 (vc_ret ?_))
 refine vr1 st results81 ?_
 refine ⟨?_, st.chg⟩
 rw [zipA_yes hlen fun i x y hi h1 h2 => hall i x y (by omega) h1 h2]
theorem psameT_any (x y : Th) (hl : OkD x.locals) (hb : OkSs x.body) (ol ob ol' ob' : Option Addr) (cl cb cl' cb' : Nat) (w : World) (h1 : DcRow w S ol x.locals) (h2 : SmRow w S ob x.body) (h1' : DcRow w S ol' y.locals) (h2' : SmRow w S ob' y.body) :
    Ret Tryz.prog 80 [.agg (thC x ol ob cl cb).toArray, .agg (thC y ol' ob' cl' cb').toArray] w fun v w' => v = .bool (sameT x y) ∧ Chg [] w w' := by
 refine ret_of [_, _] func80 rfl ntmps80 rfl ?_
 have st := St.init w []
 obtain ⟨w0, rfl⟩ : ∃ w0, w0 = w := ⟨_, rfl⟩
 refine sr ?_
 refine vc_e (e_bx (l := [_, _, _, _]) st rfl rfl rfl rfl ?_)
 intro b2 w hb2 st
 refine vc_e (e_bx (l := [_, _, _, _]) st rfl rfl rfl rfl ?_)
 intro b3 w hb3 st
 refine ya ?_
 refine et (vk2 2 3 (sr ?_))
 refine vy (y_fa0 rfl underlying69 rfl rfl sizeOf9 rfl) ?_
 refine yl st 1 isAgg9 ?_
 refine vy (y_fa0 rfl underlying69 rfl rfl sizeOf9 rfl) ?_
 refine yl st 0 isAgg9 ?_
 refine vy (y_eqs rfl rfl) ?_
 refine vmb ?_ ?_
 focus
  intro hg10
  try simp only [dn] at hg10
  refine yfz 1 underlying69 sizeOf23 ?_
  refine yl st 1 isAgg23 ?_
  refine yfz 1 underlying69 sizeOf23 ?_
  refine yl st 0 isAgg23 ?_
  refine vc_e (e_call [_, _, _] rfl rfl call77 rfl (pdecls_any x.locals y.locals _ _ _ _ _ (RowC.kept h1 st.sm) (RowC.kept h1' st.sm) hl.1) ?_)
  rintro _ w ⟨rfl, cw⟩
  replace st := st.call0 cw
  refine ypt ?_
  refine vmb ?_ ?_
  intro hg17
  try simp only [dn] at hg17
  refine yfz 2 underlying69 sizeOf65 ?_
  refine yl st 1 isAgg65 ?_
  refine yfz 2 underlying69 sizeOf65 ?_
  refine yl st 0 isAgg65 ?_
  refine vc_e (e_call [_, _, _] rfl rfl call81 rfl (pstmts_any _ x.body rfl hb y.body _ _ _ _ _ (h2.kept st.sm) (h2'.kept st.sm)) ?_)
  rintro _ w ⟨rfl, cw⟩
  replace st := st.call0 cw
  refine ypt ?_
  rotate_left
  intro hg17
  try simp only [dn] at hg17
  iterate 5 refine vsk ?_
  refine ypf ?_
 rotate_left 2
 intro hg10
 try simp only [dn] at hg10
 iterate 5 refine vsk ?_
 refine ypf ?_
 refine ym ?_
 iterate 5 refine vsk ?_
 refine ypf ?_
 all_goals
  refine ya ?_
  refine et (vk1 4 (vc_ret ?_))
  refine vr1 st results80 ?_
  refine ⟨?_, st.chg⟩
  unfold sameT
  clear st
  simp_all
theorem pthreads_any (a b : List Th) (hok : OkT a) (oa ob : Option Addr) (ca cb : Nat) (w : World) (hA : ThRow w S oa a) (hB : ThRow w S ob b) (hn : a.length ≤ 1099511627776) :
    Ret Tryz.prog 79 [.slice oa a.length ca, .slice ob b.length cb, .func (.func 80) #[] #[]] w fun v w' => v = .bool (zipA sameT a b) ∧ Chg [] w w' := by
 refine ret_of [_, _, _] func79 rfl ntmps79 rfl ?_
 have st := St.init w []
 obtain ⟨w0, rfl⟩ : ∃ w0, w0 = w := ⟨_, rfl⟩
 refine sr ?_
 refine ya ?_
 refine et (vk3 0 1 2 (vc_seq (sr ?_)))
 refine ym ?_
 refine vy (y_lensl rfl underlying24) ?_
 refine ym ?_
 refine vy (y_lensl rfl underlying24) ?_
 refine vy (y_nei rfl rfl) ?_
 refine et (vk4 0 1 2 12 ?_)
 refine vif ?_ ?_
 ·intro hc12
  try simp only [dn] at hc12
  refine sr ?_
  refine ya ?_
  refine et (vk1 6 (vc_ret (vq_then_ret ?_)))
  refine vr1 st results79 ?_
  refine ⟨?_, st.chg⟩
  rw [zipA_len (by omega)]
 intro hc12
 try simp only [dn] at hc12
 have hlen : a.length = b.length := by omega
 refine kt (vk3 0 1 2 (vc_seq (sr ?_)))
 refine ym ?_
 refine vy (y_lensl rfl underlying24) ?_
 refine ym ?_
 refine et (vk5 0 1 2 14 15 (vc_block ?_))
 refine vc_loop (w0 := w0) (M := []) (fun (j : Nat) => [(0, .slice oa a.length ca), (1, .slice ob b.length cb), (2, .func (.func 80) #[] #[]), (14, .int .i64 (a.length : Int)), (15, .int .i64 (j : Int))]) (fun _ => []) (fun j _ => j ≤ a.length ∧ ∀ (i : Nat) x y, i < j → a[i]? = some x → b[i]? = some y → sameT x y = true) (fun j => a.length - j) 0 ⟨rfl, rfl, rfl, rfl, rfl, trivial⟩ (st.dr) ⟨by omega, fun i x y h => by omega⟩ ?_
 clear st
 rintro j w ⟨hj, hall⟩ st
 refine sr ?_
 refine vy (y_lss rfl rfl) ?_
 refine et (vk6 0 1 2 14 15 16 (vc_seq ?_))
 refine vif ?_ ?_
 ·intro hc16
  try simp only [dn] at hc16
  obtain ⟨x, hx⟩ : ∃ x, a[j]? = some x := ⟨_, List.getElem?_eq_getElem (by omega)⟩
  obtain ⟨y, hy⟩ : ∃ y, b[j]? = some y := ⟨_, List.getElem?_eq_getElem (by omega)⟩
  obtain ⟨gb, go, rfl, hg⟩ := ThRow.gets hA (by omega)
  obtain ⟨fb, fo, rfl, hf⟩ := ThRow.gets hB (by omega)
  obtain ⟨ol, ob, cl, cb1, hc, hd1, hs1⟩ := hg j x hx
  obtain ⟨ol', ob', cl', cb', hd, hd2, hs2⟩ := hf j y hy
  have hkx := hok.2 j x hx
  refine kt (vk5 0 1 2 14 15 (vc_seq (vc_block (sr ?_))))
  refine ym ?_
  refine ya ?_
  refine et (vk6 0 1 2 7 14 15 (vc_seq ?_))
  refine vdr0 Tryz.mixed [Yt 0, Yt 1, Yt 2, Yt 3, Yt 4, Yt 5, Yt 6, Yt 7, Yt 8, Nt 9, Yt 10] st ?_
  clear st; intro w st hS
  iterate 3 refine pm hS ?_
  refine vp_take rfl rfl rfl hS (fun w st => y_ia (k := j) rfl rfl underlying24 sizeOf69 rfl (by omega)) ?_
  refine vp_take rfl rfl rfl hS (fun w st => y_ldca (thC x ol ob cl cb1) rfl isAgg69 sizeOf69 rfl (fun i v hi => st.chg.cell (hc i v hi) (by simp))) ?_
  iterate 2 refine pm hS ?_
  refine vp_take rfl rfl rfl hS (fun w st => y_ia (k := j) rfl rfl underlying24 sizeOf69 rfl (by omega)) ?_
  refine vp_take rfl rfl rfl hS (fun w st => y_ldca (thC y ol' ob' cl' cb') rfl isAgg69 sizeOf69 rfl (fun i v hi => st.chg.cell (hd i v hi) (by simp))) ?_
  refine vp_do rfl (e_callv [_, _] rfl rfl rfl call80 rfl (psameT_any x y hkx.1 hkx.2.1 _ _ _ _ _ _ _ _ _ (RowC.kept hd1 st.sm) (hs1.kept st.sm) (RowC.kept hd2 st.sm) (hs2.kept st.sm)) ?_)
  rintro _ w ⟨rfl, cw⟩
  replace st := st.call0 cw
  refine vp_next (by exact st) ?_; intro hS
  refine vp_take rfl rfl rfl hS (fun w st => y_not rfl) ?_
  refine vp_end (vq_then (vk6 0 1 2 14 15 28 ?_))
  refine vif ?_ ?_
  ·intro hc28
   try simp only [dn] at hc28
   refine sr ?_
   refine ya ?_
   refine et (vk1 6 (vc_ret (vq_block_ret (vq_then_ret (vq_then_ret (vq_block_ret (vq_then_ret ?_)))))))
   refine vr1 st results79 ?_
   refine ⟨?_, st.chg⟩
   rw [zipA_no hx hy (by assumption)]
  intro hc28
  try simp only [dn] at hc28
  refine vc_code_skip (vq_block (vq_then (vk5 0 1 2 14 15 (vc_region ?_))))
  refine vy (y_add rfl rfl (by omega : _ = ((j + 1 : Nat) : Int)) (by omega) (by omega)) ?_
  refine ym ?_
  refine vc_end ?_
  refine vq_again (j + 1)  ⟨rfl, rfl, rfl, rfl, rfl, trivial⟩ (st.dr) ?_ ?_
  ·exact ⟨by omega, fun i x' y' hi h1 h2 => by
       rcases (by omega : i < j ∨ i = j) with h | rfl
       · exact hall i x' y' h h1 h2
       · rw [hx] at h1; rw [hy] at h2; cases h1; cases h2; assumption⟩
  omega
 intro hc16
 try simp only [dn] at hc16
 refine vc_exit (vq_then_exit (vq_then_exit (vq_block_exit (vq_then (vc_keep [] trivial (sr ?_))))))
 refine ya ?_
 refine et (vk1 6 (vc_ret ?_))
 refine vr1 st results79 ?_
 refine ⟨?_, st.chg⟩
 rw [zipA_yes hlen fun i x y hi h1 h2 => hall i x y (by omega) h1 h2]
theorem psameP_any (p q : Pg) (hok : OkP p) (os ol ot os' ol' ot' : Option Addr) (cs cl ct cs' cl' ct' : Nat) (w : World) (hSh : DcRow w S os p.shared) (hL : DcRow w S ol p.locks) (hT : ThRow w S ot p.threads) (hSh' : DcRow w S os' q.shared) (hL' : DcRow w S ol' q.locks) (hT' : ThRow w S ot' q.threads) :
    Ret Tryz.prog 29 [.agg (pgC p os ol ot cs cl ct).toArray, .agg (pgC q os' ol' ot' cs' cl' ct').toArray] w fun v w' => v = .bool (sameP p q) ∧ Chg [] w w' := by
 refine ret_of [_, _] func29 rfl ntmps29 rfl ?_
 have st := St.init w []
 obtain ⟨w0, rfl⟩ : ∃ w0, w0 = w := ⟨_, rfl⟩
 refine sr ?_
 refine vc_e (e_bx (l := [_, _, _]) st rfl rfl rfl rfl ?_)
 intro b2 w hb2 st
 refine vc_e (e_bx (l := [_, _, _]) st rfl rfl rfl rfl ?_)
 intro b3 w hb3 st
 refine ya ?_
 refine et (vk2 2 3 (vc_seq (sr ?_)))
 refine vy (y_fa0 rfl underlying26 rfl rfl sizeOf23 rfl) ?_
 refine yl st 1 isAgg23 ?_
 refine vy (y_fa0 rfl underlying26 rfl rfl sizeOf23 rfl) ?_
 refine yl st 0 isAgg23 ?_
 refine vc_e (e_call [_, _, _] rfl rfl call77 rfl (pdecls_any p.shared q.shared _ _ _ _ _ (RowC.kept hSh st.sm) (RowC.kept hSh' st.sm) hok.1.1) ?_)
 rintro _ w ⟨rfl, cw⟩
 replace st := st.call0 cw
 refine vy (y_not rfl) ?_
 refine vmb ?_ ?_
 intro hg11
 try simp only [dn] at hg11
 iterate 6 refine vsk ?_
 refine ypt ?_
 refine et (vk3 2 3 18 ?_)
 refine vc_ift rfl ?_
 refine sr ?_
 refine ya ?_
 refine et (vk1 4 (vc_ret (vq_then_ret ?_)))
 rotate_left
 focus
  intro hg11
  try simp only [dn] at hg11
  refine yfz 1 underlying26 sizeOf23 ?_
  refine yl st 1 isAgg23 ?_
  refine yfz 1 underlying26 sizeOf23 ?_
  refine yl st 0 isAgg23 ?_
  refine vc_e (e_call [_, _, _] rfl rfl call77 rfl (pdecls_any p.locks q.locks _ _ _ _ _ (RowC.kept hL st.sm) (RowC.kept hL' st.sm) hok.2.1.1) ?_)
  rintro _ w ⟨rfl, cw⟩
  replace st := st.call0 cw
  refine vy (y_not rfl) ?_
  refine ypf ?_
  refine et (vk3 2 3 18 ?_)
  refine vif ?_ ?_
  intro hc18
  try simp only [dn] at hc18
  refine sr ?_
  refine ya ?_
  refine et (vk1 4 (vc_ret (vq_then_ret ?_)))
  rotate_left
  intro hc18
  try simp only [dn] at hc18
  refine kt (vk2 2 3 (sr ?_))
  refine yfz 2 underlying26 sizeOf24 ?_
  refine yl st 1 isAgg24 ?_
  refine yfz 2 underlying26 sizeOf24 ?_
  refine yl st 0 isAgg24 ?_
  refine vc_e (e_call [_, _, _] rfl rfl call79 rfl (pthreads_any p.threads q.threads hok.2.2 _ _ _ _ _ (hT.kept st.sm) (hT'.kept st.sm) hok.2.2.1) ?_)
  rintro _ w ⟨rfl, cw⟩
  replace st := st.call0 cw
  refine ya ?_
  refine et (vk1 4 (vc_ret ?_))
 all_goals
  refine vr1 st results29 ?_
  refine ⟨?_, st.chg⟩
  unfold sameP
  clear st
  simp_all
end
end Go.Proofs.YtnmhlpnapgojjaaGreatDoor.Pq


/- How many statements and expressions a tree has, and how deep it lies. -/
namespace Sx
def sm {α : Type} (f : α → Nat) : List α → Nat
  | [] => 0
  | x :: r => f x + sm f r
def mx {α : Type} (f : α → Nat) : List α → Nat
  | [] => 1
  | x :: r => max (f x) (mx f r)
theorem sumT {α : Type} {f : α → Nat} : ∀ {l : List α} {j : Nat} {x : α}, l[j]? = some x → sm f (l.take (j + 1)) = sm f (l.take j) + f x
  | [], j, x, h => by simp at h
  | y :: r, 0, x, h => by simp at h; subst h; simp [sm]
  | y :: r, j + 1, x, h => by
    have := sumT (f := f) (l := r) (j := j) (x := x) (by simpa using h)
    simp only [List.take_succ_cons, sm] at this ⊢
    omega
theorem mxT {α : Type} {f : α → Nat} : ∀ {l : List α} {j : Nat} {x : α}, l[j]? = some x → mx f (l.take (j + 1)) = max (mx f (l.take j)) (f x)
  | [], j, x, h => by simp at h
  | y :: r, 0, x, h => by simp at h; subst h; simp [mx]; omega
  | y :: r, j + 1, x, h => by
    have := mxT (f := f) (l := r) (j := j) (x := x) (by simpa using h)
    simp only [List.take_succ_cons, mx] at this ⊢
    omega
theorem smT_le {α : Type} (f : α → Nat) : ∀ (l : List α) (j : Nat), sm f (l.take j) ≤ sm f l
  | [], j => by simp
  | y :: r, 0 => by simp [sm]
  | y :: r, j + 1 => by have := smT_le f r j; simp only [List.take_succ_cons, sm]; omega
theorem mx_le {α : Type} (f : α → Nat) : ∀ (l : List α) (j : Nat), mx f (l.take j) ≤ mx f l
  | [], j => by simp
  | y :: r, 0 => by have := mx_le f r 0; simp only [List.take_zero, mx] at this ⊢; omega
  | y :: r, j + 1 => by have := mx_le f r j; simp only [List.take_succ_cons, mx]; omega
theorem sum_mem {α : Type} (f : α → Nat) : ∀ {l : List α} {j : Nat} {x : α}, l[j]? = some x → f x ≤ sm f l
  | [], j, x, h => by simp at h
  | y :: r, 0, x, h => by simp at h; subst h; simp only [sm]; omega
  | y :: r, j + 1, x, h => by have := sum_mem f (l := r) (j := j) (x := x) (by simpa using h); simp only [sm]; omega
mutual
def nE : Ex → Nat
  | .mk _ _ _ _ kids _ => 1 + nEs kids
termination_by structural e => e
def nEs : List Ex → Nat
  | [] => 0
  | e :: r => nE e + nEs r
termination_by structural l => l
end
mutual
def stS : Sm → Nat
  | .mk _ _ _ _ body els _ => 1 + stSs body + stSs els
termination_by structural e => e
def stSs : List Sm → Nat
  | [] => 0
  | e :: r => stS e + stSs r
termination_by structural l => l
end
mutual
def exS : Sm → Nat
  | .mk _ _ _ e body els _ => nEs e + exSs body + exSs els
termination_by structural e => e
def exSs : List Sm → Nat
  | [] => 0
  | e :: r => exS e + exSs r
termination_by structural l => l
end
mutual
def dpS : Sm → Nat
  | .mk k _ _ _ body els _ => if k = 3 ∨ k = 4 ∨ k = 5 then max (1 + dpL body) (if 0 < els.length then 1 + dpL els else 0) else 0
termination_by structural e => e
def dpL : List Sm → Nat
  | [] => 1
  | e :: r => max (dpS e) (dpL r)
termination_by structural l => l
end
theorem exSs_eq : ∀ l : List Sm, exSs l = sm exS l
  | [] => rfl
  | e :: r => by simp only [exSs, sm, exSs_eq r]
theorem dpL_eq : ∀ l : List Sm, dpL l = mx dpS l
  | [] => rfl
  | e :: r => by simp only [dpL, mx, dpL_eq r]
theorem szSs_eq : ∀ l : List Sm, szSs l = sm szS l
  | [] => rfl
  | e :: r => by simp only [szSs, sm, szSs_eq r]
theorem nE_kids (e : Ex) : nE e = 1 + nEs e.kids := by cases e; simp only [nE, Ex.kids]
theorem stS_kids (s : Sm) : stS s = 1 + stSs s.body + stSs s.els := by cases s; simp only [stS, Sm.body, Sm.els]
theorem exS_kids (s : Sm) : exS s = nEs s.e + exSs s.body + exSs s.els := by cases s; simp only [exS, Sm.e, Sm.body, Sm.els]
theorem dpS_kids (s : Sm) : dpS s = if s.k = 3 ∨ s.k = 4 ∨ s.k = 5 then max (1 + dpL s.body) (if 0 < s.els.length then 1 + dpL s.els else 0) else 0 := by cases s; first | rfl | (rw [dpS]; rfl) | (unfold dpS; split <;> simp_all [Sm.k, Sm.body, Sm.els])
theorem szS_kids (s : Sm) : szS s = s.nm.length + s.other.length + szEs s.e + szSs s.body + szSs s.els + 1 := by cases s; simp only [szS, Sm.nm, Sm.other, Sm.e, Sm.body, Sm.els]
mutual
theorem nE_le : ∀ e : Ex, nE e ≤ szE e
  | .mk k op wd nm kids a => by have := nEs_le kids; simp only [nE, szE]; omega
termination_by structural e => e
theorem nEs_le : ∀ l : List Ex, nEs l ≤ szEs l
  | [] => by simp [nEs]
  | e :: r => by have := nE_le e; have := nEs_le r; simp only [nEs, szEs]; omega
termination_by structural l => l
end
mutual
theorem stS_le : ∀ e : Sm, stS e ≤ szS e
  | .mk k nm other e body els a => by have := stSs_le body; have := stSs_le els; simp only [stS, szS]; omega
termination_by structural e => e
theorem stSs_le : ∀ l : List Sm, stSs l ≤ szSs l
  | [] => by simp [stSs]
  | e :: r => by have := stS_le e; have := stSs_le r; simp only [stSs, szSs]; omega
termination_by structural l => l
end
mutual
theorem exS_le : ∀ e : Sm, exS e ≤ szS e
  | .mk k nm other e body els a => by have := exSs_le body; have := exSs_le els; have := nEs_le e; simp only [exS, szS]; omega
termination_by structural e => e
theorem exSs_le : ∀ l : List Sm, exSs l ≤ szSs l
  | [] => by simp [exSs]
  | e :: r => by have := exS_le e; have := exSs_le r; simp only [exSs, szSs]; omega
termination_by structural l => l
end
mutual
theorem dpS_le : ∀ e : Sm, dpS e ≤ szS e + 1
  | .mk k nm other e body els a => by
    have := dpL_le body; have := dpL_le els; simp only [dpS, szS]
    split
    · split <;> omega
    · omega
termination_by structural e => e
theorem dpL_le : ∀ l : List Sm, dpL l ≤ szSs l + 1
  | [] => by simp [dpL]
  | e :: r => by have := dpS_le e; have := dpL_le r; simp only [dpL, szSs]; omega
termination_by structural l => l
end
/-- of a program -/
def stP (p : Pg) : Nat := sm (fun t : Th => stSs t.body) p.threads
def exP (p : Pg) : Nat := sm (fun t : Th => exSs t.body) p.threads
def dpP : List Th → Nat
  | [] => 0
  | t :: r => max (dpL t.body) (dpP r)
theorem dpPT : ∀ {l : List Th} {j : Nat} {x : Th}, l[j]? = some x → dpP (l.take (j + 1)) = max (dpP (l.take j)) (dpL x.body)
  | [], j, x, h => by simp at h
  | y :: r, 0, x, h => by simp at h; subst h; simp [dpP]
  | y :: r, j + 1, x, h => by
    have := dpPT (l := r) (j := j) (x := x) (by simpa using h)
    simp only [List.take_succ_cons, dpP] at this ⊢
    omega
theorem szTs_mem : ∀ {l : List Th} {j : Nat} {x : Th}, l[j]? = some x → szSs x.body ≤ szTs l
  | [], j, x, h => by simp at h
  | y :: r, 0, x, h => by simp at h; subst h; simp only [szTs]; omega
  | y :: r, j + 1, x, h => by have := szTs_mem (l := r) (j := j) (x := x) (by simpa using h); simp only [szTs]; omega
theorem stP_le : ∀ l : List Th, sm (fun t : Th => stSs t.body) l ≤ szTs l
  | [] => by simp [sm]
  | t :: r => by have := stP_le r; have := stSs_le t.body; simp only [sm, szTs]; omega
theorem exP_le : ∀ l : List Th, sm (fun t : Th => exSs t.body) l ≤ szTs l
  | [] => by simp [sm]
  | t :: r => by have := exP_le r; have := exSs_le t.body; simp only [sm, szTs]; omega
end Sx
namespace Sx
theorem nEs_split : ∀ l : List Ex, nEs l = l.length + sm (fun x : Ex => nEs x.kids) l
  | [] => rfl
  | e :: r => by have := nEs_split r; have := nE_kids e; simp only [nEs, sm, List.length_cons]; omega
theorem stSs_split : ∀ l : List Sm, stSs l = l.length + sm (fun x : Sm => stSs x.body + stSs x.els) l
  | [] => rfl
  | e :: r => by have := stSs_split r; have := stS_kids e; simp only [stSs, sm, List.length_cons]; omega
end Sx


namespace Go.Proofs.YtnmhlpnapgojjaaGreatDoor.Pq
open Go.RowKit Sx LexS ParS _root_.Go.Proofs.Tryz
section
variable {S : Nat → Prop}

set_option maxHeartbeats 1000000 in
theorem deepest_any : ∀ (n : Nat) (a : List Sm), szo a = n → OkSs a → szSs a ≤ 268435456 → ∀ (e : Int), 0 ≤ e → e + (szSs a : Int) ≤ 536870912 → ∀ (oa : Option Addr) (ca : Nat) (w : World), SmRow w S oa a →
    Ret Tryz.prog 85 [.slice oa a.length ca, .int .i64 e] w fun v w' => v = .int .i64 (e - 1 + (dpL a : Int)) ∧ Chg [] w w' := by
 intro n
 refine Nat.strongRecOn n fun n ih => ?_
 intro a hn hok hsz e he hb oa ca w hA
 subst hn
 have hn := hok.1
 refine ret_of [_, _] func85 rfl ntmps85 rfl ?_
 have st := St.init w []
 obtain ⟨w0, rfl⟩ : ∃ w0, w0 = w := ⟨_, rfl⟩
 refine sr ?_
 refine ya ?_
 refine et (vk2 0 1 (sr ?_))
 refine ym ?_
 refine ya ?_
 refine et (vk3 0 1 5 (vc_seq (sr ?_)))
 refine ym ?_
 refine vy (y_lensl rfl underlying65) ?_
 refine ym ?_
 refine et (vk5 1 5 9 10 11 (vc_block ?_))
 refine vc_loop (w0 := w0) (M := []) (fun (j : Nat) => [(1, .int .i64 e), (5, .int .i64 (e - 1 + (mx dpS (a.take j) : Int))), (9, .slice oa a.length ca), (10, .int .i64 (a.length : Int)), (11, .int .i64 (j : Int))]) (fun _ => []) (fun j _ => j ≤ a.length) (fun j => a.length - j) 0 ⟨rfl, (congrArg some (congrArg (Value.int .i64) (by show e = e - 1 + ((1 : Nat) : Int); omega))), rfl, rfl, rfl, trivial⟩ (st.dr) (by omega) ?_
 clear st
 rintro j w hj st
 refine sr ?_
 refine vy (y_lss rfl rfl) ?_
 refine et (vk6 1 5 9 10 11 12 (vc_seq ?_))
 refine vif ?_ ?_
 ·intro hc12
  try simp only [dn] at hc12
  obtain ⟨x, hx⟩ : ∃ x, a[j]? = some x := ⟨_, List.getElem?_eq_getElem (by omega)⟩
  have hz := mem_size hx
  have hkx := hok.2 j x hx
  obtain ⟨gb, go, rfl, hg⟩ := SmRow.gets hA (by omega)
  obtain ⟨oe, obb, ol, ce, cbb, cl, hc, hse, hsb, hsl⟩ := hg j x hx
  have hB2 : szo x.body < szo a := by
   have : szo x.body < szo x := by cases x; exact sm_size.1
   omega
  have hL2 : szo x.els < szo a := by
   have : szo x.els < szo x := by cases x; exact sm_size.2
   omega
  have m1 := sum_mem szS hx
  rw [← szSs_eq, szS_kids] at m1
  have t1 := mxT (f := dpS) hx
  have t2 := mx_le dpS a (j + 1)
  rw [← dpL_eq a] at t2
  have t3 := dpL_le a
  have t4 := dpS_kids x
  have t5 := dpL_le x.body
  have t6 := dpL_le x.els
  refine kt (vk5 1 5 9 10 11 (vc_seq (vc_block (sr ?_))))
  refine vy (y_ia (k := j) rfl rfl underlying65 sizeOf67 rfl (by omega)) ?_
  refine vy (y_ldca (smC x oe obb ol ce cbb cl) rfl isAgg67 sizeOf67 rfl (fun i v hi => st.chg.cell (hc i v hi) (by simp))) ?_
  refine vc_e (e_al (l := [_, _, _, _, _, _, _]) st rfl rfl zeroValue67 rfl ?_)
  intro b7 w hb7 st
  refine vc_e (ests st 0 [_, _, _, _, _, _, _] sizeOf67 ?_)
  intro w st; dsimp only [setNth, wr] at st
  refine et (vk6 1 5 7 9 10 11 (vc_seq (sr ?_)))
  refine vy (y_fa0 rfl underlying67 rfl rfl sizeOf64 rfl) ?_
  refine yl st 0 isAgg64 ?_
  refine vy (y_nei rfl rfl) ?_
  refine vmb ?_ ?_
  focus
   intro hg18
   try simp only [dn] at hg18
   refine vy (y_fa0 rfl underlying67 rfl rfl sizeOf64 rfl) ?_
   refine yl st 0 isAgg64 ?_
   refine vy (y_nei rfl rfl) ?_
   refine ypt ?_
   refine vmb ?_ ?_
   focus
    intro hg23
    try simp only [dn] at hg23
    refine vy (y_fa0 rfl underlying67 rfl rfl sizeOf64 rfl) ?_
    refine yl st 0 isAgg64 ?_
    refine vy (y_nei rfl rfl) ?_
    refine ypt ?_
    refine et (vk7 1 5 7 9 10 11 27 ?_)
    refine vif ?_ ?_
    intro hc27
    try simp only [dn] at hc27
    rw [if_neg (by omega)] at t4
    refine vc_exit (vq_then_exit (vq_block_exit ?_))
    rotate_left
    focus
     intro hc27
     try simp only [dn] at hc27
     refine kt (vk6 1 5 7 9 10 11 (sr ?_))
     rw [if_pos (by omega)] at t4
     refine ym ?_
     refine yfz 4 underlying67 sizeOf65 ?_
     refine yl st 0 isAgg65 ?_
     refine ym ?_
     refine vy (y_add rfl rfl rfl (by omega) (by omega)) ?_
     refine vc_e (e_call [_, _] rfl rfl call85 rfl (ih _ hB2 x.body rfl hkx.body (by omega) (e + 1) (by omega) (by omega) _ _ _ (hsb.kept st.sm)) ?_)
     rintro _ w ⟨rfl, cw⟩
     replace st := st.call0 cw
     refine vy (y_max rfl rfl) ?_
     refine ya ?_
     refine et (vk6 1 5 7 9 10 11 (sr ?_))
     refine yfz 5 underlying67 sizeOf65 ?_
     refine yl st 0 isAgg65 ?_
     refine vy (y_lensl rfl underlying65) ?_
     refine vy (y_gtr rfl rfl) ?_
     refine et (vk7 1 5 7 9 10 11 38 ?_)
     refine vif ?_ ?_
     intro hc38
     try simp only [dn] at hc38
     rw [if_pos (by omega)] at t4
     refine vc_region ?_
     refine ym ?_
     refine yfz 5 underlying67 sizeOf65 ?_
     refine yl st 0 isAgg65 ?_
     refine ym ?_
     refine vy (y_add rfl rfl rfl (by omega) (by omega)) ?_
     refine vc_e (e_call [_, _] rfl rfl call85 rfl (ih _ hL2 x.els rfl hkx.els (by omega) (e + 1) (by omega) (by omega) _ _ _ (hsl.kept st.sm)) ?_)
     rintro _ w ⟨rfl, cw⟩
     replace st := st.call0 cw
     refine vy (y_max rfl rfl) ?_
     refine ya ?_
     refine vc_end ?_
     rotate_left
     intro hc38
     try simp only [dn] at hc38
     rw [if_neg (by omega)] at t4
     refine vc_code_skip ?_
     all_goals
      refine vq_block ?_
   rotate_left 3
   focus
    intro hg23
    try simp only [dn] at hg23
    iterate 3 refine vsk ?_
    refine ypf ?_
    refine et (vk7 1 5 7 9 10 11 27 ?_)
    refine vc_iff rfl ?_
    refine kt (vk6 1 5 7 9 10 11 (sr ?_))
    rw [if_pos (by omega)] at t4
    refine ym ?_
    refine yfz 4 underlying67 sizeOf65 ?_
    refine yl st 0 isAgg65 ?_
    refine ym ?_
    refine vy (y_add rfl rfl rfl (by omega) (by omega)) ?_
    refine vc_e (e_call [_, _] rfl rfl call85 rfl (ih _ hB2 x.body rfl hkx.body (by omega) (e + 1) (by omega) (by omega) _ _ _ (hsb.kept st.sm)) ?_)
    rintro _ w ⟨rfl, cw⟩
    replace st := st.call0 cw
    refine vy (y_max rfl rfl) ?_
    refine ya ?_
    refine et (vk6 1 5 7 9 10 11 (sr ?_))
    refine yfz 5 underlying67 sizeOf65 ?_
    refine yl st 0 isAgg65 ?_
    refine vy (y_lensl rfl underlying65) ?_
    refine vy (y_gtr rfl rfl) ?_
    refine et (vk7 1 5 7 9 10 11 38 ?_)
    refine vif ?_ ?_
    intro hc38
    try simp only [dn] at hc38
    rw [if_pos (by omega)] at t4
    refine vc_region ?_
    refine ym ?_
    refine yfz 5 underlying67 sizeOf65 ?_
    refine yl st 0 isAgg65 ?_
    refine ym ?_
    refine vy (y_add rfl rfl rfl (by omega) (by omega)) ?_
    refine vc_e (e_call [_, _] rfl rfl call85 rfl (ih _ hL2 x.els rfl hkx.els (by omega) (e + 1) (by omega) (by omega) _ _ _ (hsl.kept st.sm)) ?_)
    rintro _ w ⟨rfl, cw⟩
    replace st := st.call0 cw
    refine vy (y_max rfl rfl) ?_
    refine ya ?_
    refine vc_end ?_
    rotate_left
    intro hc38
    try simp only [dn] at hc38
    rw [if_neg (by omega)] at t4
    refine vc_code_skip ?_
    all_goals
     refine vq_block ?_
  rotate_left 5
  focus
   intro hg18
   try simp only [dn] at hg18
   iterate 3 refine vsk ?_
   refine ypf ?_
   refine ym ?_
   iterate 3 refine vsk ?_
   refine ypf ?_
   refine et (vk7 1 5 7 9 10 11 27 ?_)
   refine vc_iff rfl ?_
   refine kt (vk6 1 5 7 9 10 11 (sr ?_))
   rw [if_pos (by omega)] at t4
   refine ym ?_
   refine yfz 4 underlying67 sizeOf65 ?_
   refine yl st 0 isAgg65 ?_
   refine ym ?_
   refine vy (y_add rfl rfl rfl (by omega) (by omega)) ?_
   refine vc_e (e_call [_, _] rfl rfl call85 rfl (ih _ hB2 x.body rfl hkx.body (by omega) (e + 1) (by omega) (by omega) _ _ _ (hsb.kept st.sm)) ?_)
   rintro _ w ⟨rfl, cw⟩
   replace st := st.call0 cw
   refine vy (y_max rfl rfl) ?_
   refine ya ?_
   refine et (vk6 1 5 7 9 10 11 (sr ?_))
   refine yfz 5 underlying67 sizeOf65 ?_
   refine yl st 0 isAgg65 ?_
   refine vy (y_lensl rfl underlying65) ?_
   refine vy (y_gtr rfl rfl) ?_
   refine et (vk7 1 5 7 9 10 11 38 ?_)
   refine vif ?_ ?_
   intro hc38
   try simp only [dn] at hc38
   rw [if_pos (by omega)] at t4
   refine vc_region ?_
   refine ym ?_
   refine yfz 5 underlying67 sizeOf65 ?_
   refine yl st 0 isAgg65 ?_
   refine ym ?_
   refine vy (y_add rfl rfl rfl (by omega) (by omega)) ?_
   refine vc_e (e_call [_, _] rfl rfl call85 rfl (ih _ hL2 x.els rfl hkx.els (by omega) (e + 1) (by omega) (by omega) _ _ _ (hsl.kept st.sm)) ?_)
   rintro _ w ⟨rfl, cw⟩
   replace st := st.call0 cw
   refine vy (y_max rfl rfl) ?_
   refine ya ?_
   refine vc_end ?_
   rotate_left
   intro hc38
   try simp only [dn] at hc38
   rw [if_neg (by omega)] at t4
   refine vc_code_skip ?_
   all_goals
    refine vq_block ?_
  all_goals
   refine vq_then (vk5 1 5 9 10 11 (vc_region ?_))
   refine vy (y_add rfl rfl (by omega : _ = ((j + 1 : Nat) : Int)) (by omega) (by omega)) ?_
   refine ym ?_
   refine vc_end ?_
   refine vq_again (j + 1)  ⟨rfl, (congrArg some (congrArg (Value.int .i64) (by omega))), rfl, rfl, rfl, trivial⟩ (st.dr) ?_ ?_
   ·(show j + 1 ≤ a.length; omega)
   ·omega
 intro hc12
 try simp only [dn] at hc12
 refine vc_exit (vq_then_exit (vq_then_exit (vq_block_exit (vq_then (vk1 5 (sr ?_))))))
 refine ym ?_
 refine ya ?_
 refine et (vk1 4 (vc_ret ?_))
 refine vr1 st results85 ?_
 refine ⟨?_, st.chg⟩
 rw [List.take_of_length_le (by omega), dpL_eq]
theorem pdeepP_any (p : Pg) (hok : OkP p) (hsz : szTs p.threads ≤ 268435456) (os ol ot : Option Addr) (cs cl ct : Nat) (w : World) (hA : ThRow w S ot p.threads) :
    Ret Tryz.prog 31 [.agg (pgC p os ol ot cs cl ct).toArray] w fun v w' => v = .int .i64 (dpP p.threads : Int) ∧ Chg [] w w' := by
 refine ret_of [_] func31 rfl ntmps31 rfl ?_
 have st := St.init w []
 obtain ⟨w0, rfl⟩ : ∃ w0, w0 = w := ⟨_, rfl⟩
 have hn3 := hok.2.2.1
 refine sr ?_
 refine vc_e (e_bx (l := [_, _, _]) st rfl rfl rfl rfl ?_)
 intro b1 w hb1 st
 refine ya ?_
 refine et (vk1 1 (sr ?_))
 refine ya ?_
 refine et (vk2 1 3 (vc_seq (sr ?_)))
 refine yfz 2 underlying26 sizeOf24 ?_
 refine yl st 0 isAgg24 ?_
 refine vy (y_lensl rfl underlying24) ?_
 refine ym ?_
 refine et (vk4 3 7 8 9 (vc_block ?_))
 refine vc_loop (w0 := w0) (M := []) (fun (j : Nat) => [(3, .int .i64 (dpP (p.threads.take j) : Int)), (7, .slice ot p.threads.length ct), (8, .int .i64 (p.threads.length : Int)), (9, .int .i64 (j : Int))]) (fun _ => []) (fun j _ => j ≤ p.threads.length) (fun j => p.threads.length - j) 0 ⟨rfl, rfl, rfl, rfl, trivial⟩ (st.dr) (by omega) ?_
 clear st
 rintro j w hj st
 refine sr ?_
 refine vy (y_lss rfl rfl) ?_
 refine et (vk5 3 7 8 9 10 (vc_seq ?_))
 refine vif ?_ ?_
 ·intro hc10
  try simp only [dn] at hc10
  obtain ⟨x, hx⟩ : ∃ x, p.threads[j]? = some x := ⟨_, List.getElem?_eq_getElem (by omega)⟩
  have hkx := hok.2.2.2 j x hx
  obtain ⟨gb, go, rfl, hg⟩ := ThRow.gets hA (by omega)
  obtain ⟨tl, tb, cll, cbb, hc, htl, htb⟩ := hg j x hx
  have m1 := szTs_mem hx
  have t1 := dpPT hx
  have t2 := dpL_le x.body
  refine kt (vk4 3 7 8 9 (vc_seq (vc_block (sr ?_))))
  refine vy (y_ia (k := j) rfl rfl underlying24 sizeOf69 rfl (by omega)) ?_
  refine vy (y_ldca (thC x tl tb cll cbb) rfl isAgg69 sizeOf69 rfl (fun i v hi => st.chg.cell (hc i v hi) (by simp))) ?_
  refine vc_e (e_al (l := [_, _, _, _]) st rfl rfl zeroValue69 rfl ?_)
  intro b5 w hb5 st
  refine vc_e (ests st 0 [_, _, _, _] sizeOf69 ?_)
  intro w st; dsimp only [setNth, wr] at st
  refine et (vk5 3 5 7 8 9 (vc_region ?_))
  refine ym ?_
  refine yfz 2 underlying69 sizeOf65 ?_
  refine yl st 0 isAgg65 ?_
  refine vc_e (e_call [_, _] rfl rfl call85 rfl (deepest_any _ x.body rfl hkx.2.1 (by omega) 1 (by omega) (by omega) _ _ _ (htb.kept st.sm)) ?_)
  rintro _ w ⟨rfl, cw⟩
  replace st := st.call0 cw
  refine vy (y_max rfl rfl) ?_
  refine ya ?_
  refine vc_end (vq_block (vq_then (vk4 3 7 8 9 (vc_region ?_))))
  refine vy (y_add rfl rfl (by omega : _ = ((j + 1 : Nat) : Int)) (by omega) (by omega)) ?_
  refine ym ?_
  refine vc_end ?_
  refine vq_again (j + 1)  ⟨(congrArg some (congrArg (Value.int .i64) (by omega))), rfl, rfl, rfl, trivial⟩ (st.dr) ?_ ?_
  ·(show j + 1 ≤ p.threads.length; omega)
  omega
 intro hc10
 try simp only [dn] at hc10
 refine vc_exit (vq_then_exit (vq_then_exit (vq_block_exit (vq_then (vk1 3 (sr ?_))))))
 refine ym ?_
 refine ya ?_
 refine et (vk1 2 (vc_ret ?_))
 refine vr1 st results31 ?_
 refine ⟨?_, st.chg⟩
 rw [List.take_of_length_le (by omega)]
end
end Go.Proofs.YtnmhlpnapgojjaaGreatDoor.Pq


/- Four blocks that are known. -/
namespace Sx
open Go Go.RowKit
theorem St.of4 {w : World} {b c d e : Nat} {o p q r : Obj} (M : List Nat) (h1 : w.heap[b]? = some o) (h2 : w.heap[c]? = some p) (h3 : w.heap[d]? = some q) (h4 : w.heap[e]? = some r) (n1 : b ≠ c) (n2 : b ≠ d) (n3 : b ≠ e) (n4 : c ≠ d) (n5 : c ≠ e) (n6 : d ≠ e) : St w M [.blk b o, .blk c p, .blk d q, .blk e r] w :=
  ⟨Chg.refl M w, List.pairwise_cons.2 ⟨by simp [Res.at?, n1, n2, n3], List.pairwise_cons.2 ⟨by simp [Res.at?, n4, n5], List.pairwise_cons.2 ⟨by simp [Res.at?, n6], List.pairwise_singleton _ _⟩⟩⟩, by simp [Res.holds, h1, h2, h3, h4]⟩
end Sx

