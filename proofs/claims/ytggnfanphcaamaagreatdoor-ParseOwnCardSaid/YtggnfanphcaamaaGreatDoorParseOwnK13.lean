/- A part of the proof: contracts of functions and plain laws; each theorem says its own conditions. -/
import Derived.Test.YtggnfanphcaamaaGreatDoorParseOwnK1
import Derived.Test.YtggnfanphcaamaaGreatDoorParseOwnK12
import Derived.Test.YtggnfanphcaamaaGreatDoorParseOwnK2
import Derived.Test.YtggnfanphcaamaaGreatDoorParseOwnK3
import Derived.Test.YtggnfanphcaamaaGreatDoorParseOwnK10
import Derived.Test.YtggnfanphcaamaaGreatDoorParseOwnK11
set_option linter.unusedVariables false
set_option linter.unusedSimpArgs false
namespace Go.Proofs.YtggnfanphcaamaaGreatDoor
open Go.RowKit Sx LexS _root_.Go.Proofs.Tryz
section
variable {n0 : Nat}

set_option maxHeartbeats 2000000 in
theorem pcopyP_any (p : Pg) (hok : OkP p) (os ol ot : Option Addr) (cs cl ct : Nat) (w : World) (hSh : DcRow w (· < n0) os p.shared) (hL : DcRow w (· < n0) ol p.locks) (hT : ThRow w (· < n0) ot p.threads) (hn0 : n0 ≤ w.heap.size) :
    Ret Tryz.prog 9 [.agg (pgL p os ol ot cs cl ct).toArray] w fun v w' => ∃ l S, v = .agg l.toArray ∧ PgQ w' p l S ∧ Nw w.heap.size S ∧ Chg [] w w' := by
 refine ret_of [_] func9 rfl ntmps9 rfl ?_
 have st := St.init w []
 obtain ⟨w0, rfl⟩ : ∃ w0, w0 = w := ⟨_, rfl⟩
 have hn1 := hok.1.1
 have hn2 := hok.2.1.1
 have hn3 := hok.2.2.1
 refine sr ?_
 refine vc_e (e_bx (l := [_, _, _]) st rfl rfl rfl rfl ?_)
 intro b1 w hb1 st
 refine vc_e (e_al (l := [_, _, _]) st rfl rfl zeroValue25 rfl ?_)
 intro b2 w hb2 st
 refine et (vk2 1 2 ?_)
 refine vc_cut (w0 := w0) (M := []) (fun (z : Option Addr × Nat × Option Addr × Nat × Nat) => [(1, .pointer (some ⟨b1, 0, none⟩)), (2, .pointer (some ⟨b2, 0, none⟩)), (3, .pointer (some ⟨z.2.2.2.2, 0, none⟩))]) (fun z => [.blk z.2.2.2.2 (.cells [.slice z.1 p.shared.length z.2.1, .slice z.2.2.1 p.locks.length z.2.2.2.1, .slice none 0 0].toArray 25 (0, 0)), .own (.slice z.1 p.shared.length z.2.1) 52 3 p.shared.length (p.shared.flatMap dcL), .own (.slice z.2.2.1 p.locks.length z.2.2.2.1) 52 3 p.locks.length (p.locks.flatMap dcL), .blk b2 (.cells [.slice none 0 0, .slice none 0 0, .slice none 0 0].toArray 25 (0, 0)), .blk b1 (.cells (pgL p os ol ot cs cl ct).toArray 25 (0, 0))]) (fun z _ => w0.heap.size ≤ z.2.2.2.2) ?_ ?_
 ·refine vd_draw Tryz.mixed (.take 0 (.take 1 (.take 3 (.take 4 (.two 2 7 (.two 5 7 (.take 6 (.one 7 (.one 8 .done))) (.one 5 (.take 6 (.one 8 .done)))) (.one 2 (.one 5 (.take 6 (.one 8 .done))))))))) (fun w => St _ _ [.blk b2 (.cells [.slice none 0 0, .slice none 0 0, .slice none 0 0].toArray 25 (0, 0)), .blk b1 (.cells (pgL p os ol ot cs cl ct).toArray 25 (0, 0))] w) (by exact st) (by kernel_rfl) (by repeat (first | exact okQ_body | refine okQ_then ?_ | refine okQ_block ?_)) rfl (by kernel_rfl) ?_
  intro w cd; replace st := st.call0 cd; clear cd
  have hS : St _ _ [.blk b2 (.cells [.slice none 0 0, .slice none 0 0, .slice none 0 0].toArray 25 (0, 0)), .blk b1 (.cells (pgL p os ol ot cs cl ct).toArray 25 (0, 0))] w := (by exact st)
  refine df0 hS underlying25 sizeOf22 ?_
  refine dld hS 1 isAgg22 ?_
  refine dfz hS 1 underlying25 sizeOf22 ?_
  refine dld hS 1 isAgg22 ?_
  refine vd_two rfl rfl ?_ ?_
  focus
   replace st := st.ownNil 52 3
   refine (e_appr (bytes := 32) (len' := p.shared.length) (ys := p.shared.flatMap dcL) st 0 rfl rfl rfl rfl rfl (DcRow.rd (S := (· < n0)) (RowC.kept hSh (Same.of_nil st.chg))) underlying22 Tryz.info52 rfl rfl rfl rfl rfl (dcs_len p.shared) (dcs_one p.shared) (by unfold maxLen; omega) (by omega) (by omega) (by simp) ?_)
   intro s1o s1c w st; dsimp only [setNth] at st
   refine vd_next st.dr ?_; intro hS
   refine vd_two rfl rfl ?_ ?_
   replace st := st.ownNil 52 3
   refine (e_appr (bytes := 32) (len' := p.locks.length) (ys := p.locks.flatMap dcL) st 0 rfl rfl rfl rfl rfl (DcRow.rd (S := (· < n0)) (RowC.kept hL (Same.of_nil st.chg))) underlying22 Tryz.info52 rfl rfl rfl rfl rfl (dcs_len p.locks) (dcs_one p.locks) (by unfold maxLen; omega) (by omega) (by omega) (by simp) ?_)
   intro s2o s2c w st; dsimp only [setNth] at st
   refine vd_next st.dr ?_; intro hS
   refine vd_take rfl rfl rfl hS (fun w st => y_bld (.agg #[_, _, _]) [(0, _), (1, _)] rfl (fun w => by simp [Instr.build, go_sem] <;> repeat' constructor)) ?_
   refine vd_do rfl (e_al (l := [_, _, _]) st rfl rfl zeroValue25 rfl ?_)
   intro b3 w hb3 st
   refine vd_next st.dr ?_; intro hS
   rotate_left
   refine (e_al (l := [_, _, _]) st rfl rfl zeroValue25 rfl ?_)
   intro b3 w hb3 st
   refine vd_next st.dr ?_; intro hS
   replace st := st.ownNil 52 3
   replace st := st.ownNil 52 3
   refine vd_do rfl (e_appr (bytes := 32) (len' := p.locks.length) (ys := p.locks.flatMap dcL) st 0 rfl rfl rfl rfl rfl (DcRow.rd (S := (· < n0)) (RowC.kept hL (Same.of_nil st.chg))) underlying22 Tryz.info52 rfl rfl rfl rfl rfl (dcs_len p.locks) (dcs_one p.locks) (by unfold maxLen; omega) (by omega) (by omega) (by simp) ?_)
   intro s2o s2c w st; dsimp only [setNth] at st
   refine vd_next st.dr ?_; intro hS
   refine vd_take rfl rfl rfl hS (fun w st => y_bld (.agg #[_, _, _]) [(0, _), (1, _)] rfl (fun w => by simp [Instr.build, go_sem] <;> repeat' constructor)) ?_
  rotate_left 2
  refine (e_al (l := [_, _, _]) st rfl rfl zeroValue25 rfl ?_)
  intro b3 w hb3 st
  refine vd_next st.dr ?_; intro hS
  replace st := st.ownNil 52 3
  replace st := st.ownNil 52 3
  refine vd_do rfl (e_appr (bytes := 32) (len' := p.shared.length) (ys := p.shared.flatMap dcL) st 0 rfl rfl rfl rfl rfl (DcRow.rd (S := (· < n0)) (RowC.kept hSh (Same.of_nil st.chg))) underlying22 Tryz.info52 rfl rfl rfl rfl rfl (dcs_len p.shared) (dcs_one p.shared) (by unfold maxLen; omega) (by omega) (by omega) (by simp) ?_)
  intro s1o s1c w st; dsimp only [setNth] at st
  refine vd_next st.dr ?_; intro hS
  replace st := st.ownNil 52 3
  replace st := st.ownNil 52 3
  refine vd_do rfl (e_appr (bytes := 32) (len' := p.locks.length) (ys := p.locks.flatMap dcL) st 0 rfl rfl rfl rfl rfl (DcRow.rd (S := (· < n0)) (RowC.kept hL (Same.of_nil st.chg))) underlying22 Tryz.info52 rfl rfl rfl rfl rfl (dcs_len p.locks) (dcs_one p.locks) (by unfold maxLen; omega) (by omega) (by omega) (by simp) ?_)
  intro s2o s2c w st; dsimp only [setNth] at st
  refine vd_next st.dr ?_; intro hS
  refine vd_take rfl rfl rfl hS (fun w st => y_bld (.agg #[_, _, _]) [(0, _), (1, _)] rfl (fun w => by simp [Instr.build, go_sem] <;> repeat' constructor)) ?_
  all_goals
   first
   | refine vd_do rfl (e_sts (vs := [_, _, _]) st 0 rfl rfl rfl rfl rfl sizeOf25 rfl rfl (by (right; assumption)) ?_)
   | refine vd_do rfl (e_sts (vs := [_, _, _]) st 2 rfl rfl rfl rfl rfl sizeOf25 rfl rfl (by (right; assumption)) ?_)
   | refine vd_do rfl (e_sts (vs := [_, _, _]) st 4 rfl rfl rfl rfl rfl sizeOf25 rfl rfl (by (right; assumption)) ?_)
   intro w st; dsimp only [setNth, wr] at st
   refine vd_next st.dr ?_; intro hS
   refine vd_end ?_
   refine vq_meet (s1o, s1c, s2o, s2c, b3) ⟨rfl, rfl, rfl, trivial⟩ (by first | exact st.pick [0, 2, 1, 3, 4] rfl (by decide) | exact st.pick [2, 3, 0, 4, 5] rfl (by decide) | exact st.pick [4, 2, 0, 5, 6] rfl (by decide)) ?_
   ·assumption
 clear st
 rintro ⟨s1o, s1c, s2o, s2c, b3⟩ w hb3 st
 dsimp only at *
 refine vc_seq (sr ?_)
 replace st := St.pushR (r := .tree [] (fun w => ThSs 60 56 52 w [] [] [])) st (Chg.refl _ _) (holds_of (by simp [ThSs]) (by simp) (fun a b h hk => h.kept hk)) (by simp [Res.at?])
 replace st := st.ownNil 50 4
 refine yfz 2 underlying25 sizeOf23 ?_
 refine yl st 6 isAgg23 ?_
 refine vy (y_lensl rfl underlying23) ?_
 refine ym ?_
 refine et (vk5 2 3 14 15 16 (vc_block ?_))
 refine vc_loop (w0 := w0) (M := []) (fun (y : Nat × Option Addr × Nat × List Value × List Nat) => [(2, .pointer (some ⟨b2, 0, none⟩)), (3, .pointer (some ⟨b3, 0, none⟩)), (14, .slice ot p.threads.length ct), (15, .int .i64 (p.threads.length : Int)), (16, .int .i64 (y.1 : Int))]) (fun y => [.own (.slice y.2.1 y.1 y.2.2.1) 50 4 y.1 y.2.2.2.1, .tree y.2.2.2.2 (fun w => ThSs 60 56 52 w (p.threads.take y.1) y.2.2.2.1 y.2.2.2.2), .blk b3 (.cells [.slice s1o p.shared.length s1c, .slice s2o p.locks.length s2c, .slice y.2.1 y.1 y.2.2.1].toArray 25 (0, 0)), .own (.slice s1o p.shared.length s1c) 52 3 p.shared.length (p.shared.flatMap dcL), .own (.slice s2o p.locks.length s2c) 52 3 p.locks.length (p.locks.flatMap dcL), .blk b2 (.cells [.slice none 0 0, .slice none 0 0, .slice none 0 0].toArray 25 (0, 0))]) (fun y _ => y.1 ≤ p.threads.length ∧ Nw w0.heap.size y.2.2.2.2) (fun y => p.threads.length - y.1) (0, none, 0, [], []) ⟨rfl, rfl, rfl, rfl, rfl, trivial⟩ (by simpa using st.pick [0, 1, 2, 3, 4, 5] rfl (by decide)) ⟨by simp, Nw.nil⟩ ?_
 clear st
 rintro ⟨j, oj, cj, xs, S⟩ w ⟨hj, hSS⟩ st
 dsimp only at *
 refine sr ?_
 refine vy (y_lss rfl rfl) ?_
 refine et (vk6 2 3 14 15 16 17 (vc_seq ?_))
 refine vif ?_ ?_
 ·intro hc17
  try simp only [dn] at hc17
  have stK := st
  obtain ⟨t, htj⟩ : ∃ t, p.threads[j]? = some t := ⟨_, List.getElem?_eq_getElem (by omega)⟩
  obtain ⟨gb, go, rfl, hgS, hgl, hg⟩ := ThRow.at hT (by omega)
  obtain ⟨tl, tb, cll, cbb, htl, htb, hc⟩ := hg j t htj
  have hkt := hok.2.2.2 j t htj
  have st := stK
  clear stK
  refine kt (vk5 2 3 14 15 16 (vc_seq (vc_block (sr ?_))))
  refine vy (y_ia (k := j) rfl rfl underlying23 sizeOf50 rfl (by omega)) ?_
  refine vy (y_ldca (thL t tl tb cll cbb) rfl isAgg50 sizeOf50 rfl (fun i v hi => st.chg.cell (hc i v hi) (by simp))) ?_
  refine vc_e (e_al (l := [_, _, _, _]) st rfl rfl zeroValue50 rfl ?_)
  intro b5 w hb5 st
  refine vc_e (e_sts (vs := [_, _, _, _]) st 0 rfl rfl rfl rfl rfl sizeOf50 rfl rfl (by (right; assumption)) ?_)
  intro w st; dsimp only [setNth, wr] at st
  refine et (vk6 2 3 5 14 15 16 (sr ?_))
  refine yfz 1 underlying50 sizeOf22 ?_
  refine yl st 0 isAgg22 ?_
  replace st := st.ownNil 52 3
  have hn5 := hkt.1.1
  refine vc_e (e_appr (bytes := 32) (len' := t.locals.length) (ys := t.locals.flatMap dcL) st 0 rfl rfl rfl rfl rfl (DcRow.rd (S := (· < n0)) (RowC.kept htl (Same.of_nil st.chg))) underlying22 Tryz.info52 rfl rfl rfl rfl rfl (dcs_len t.locals) (dcs_one t.locals) (by unfold maxLen; omega) (by omega) (by omega) (by simp) ?_)
  intro s3o s3c w st; dsimp only [setNth] at st
  refine yfz 1 underlying50 sizeOf22 ?_
  refine vc_e (e_st st 1 rfl rfl rfl rfl sizeOf22 rfl rfl (by (right; assumption)) ?_)
  intro w st; dsimp only [setNth, wr] at st
  refine et (vk6 2 3 5 14 15 16 (sr ?_))
  refine yfz 2 underlying50 sizeOf48 ?_
  refine yl st 1 isAgg48 ?_
  refine vc_e (e_call [_] rfl rfl call20 rfl (pcopyS_any _ t.body rfl hkt.2.1 _ _ _ (htb.kept (Same.of_nil st.chg)) (Nat.le_trans hn0 st.chg.size)) ?_)
  rintro _ w ⟨s4o, s4c, S4, rfl, hQ, hN, cw⟩
  have hN4 := hN.le st.chg.size
  replace st := St.pushR (r := .tree S4 (fun w => SmRQ w s4o s4c t.body S4)) st cw (holds_of hQ hQ.lt (fun a b h hk => h.kept hk)) hN.2
  refine yfz 2 underlying50 sizeOf48 ?_
  refine vc_e (e_st st 2 rfl rfl rfl rfl sizeOf48 rfl rfl (by (right; assumption)) ?_)
  intro w st; dsimp only [setNth, wr] at st
  refine et (vk6 2 3 5 14 15 16 (vc_region ?_))
  refine yfz 2 underlying25 sizeOf23 ?_
  refine yl st 5 isAgg23 ?_
  refine yla st 2 [_, _, _, _] isAgg50 sizeOf50 ?_
  refine vc_e (e_bs1 (l := [_, _, _, _]) st rfl rfl rfl rfl underlying23 sizeOf50 rfl rfl rfl zeroValue50 ?_)
  intro b31 w hb31 st
  refine vc_e (e_app (bytes := 72) st 4 0 rfl rfl rfl rfl rfl rfl underlying23 Tryz.info50 rfl rfl rfl rfl rfl (by simp) rfl rfl (by unfold maxLen; omega) (by omega) ?_)
  intro oaQ capQ w st; dsimp only [setNth] at st
  refine yfz 2 underlying25 sizeOf23 ?_
  refine vc_e (e_st st 6 rfl rfl rfl rfl sizeOf23 rfl rfl (by (right; assumption)) ?_)
  intro w st; dsimp only [setNth, wr] at st
  refine vc_end (vq_block (vq_then (vk5 2 3 14 15 16 (vc_region ?_))))
  obtain ⟨h3, hN3⟩ := st.ownNw (i := 2) rfl
  have d34 := st.ne (i := 2) (j := 1) (by decide) rfl rfl
  simp only [Res.at?, obk_own] at d34
  have dS3 := st.ne (i := 5) (j := 2) (by decide) rfl rfl
  simp only [Res.at?, obk_own] at dS3
  have dS4 := st.ne (i := 5) (j := 1) (by decide) rfl rfl
  have hNq := hN3.app hN4 d34
  have hne : ∀ b ∈ S, b ∉ obk s3o ++ S4 := fun b hb hb' => (List.mem_append.1 hb').elim (dS3 b hb) (dS4 b hb)
  have h0 := (st.res (i := 5) rfl).1
  have h4 := (st.res (i := 1) rfl).1
  have h5 : ThSs 60 56 52 w (p.threads.take (j + 1)) (xs ++ thL t s3o s4o s3c s4c) (S ++ (obk s3o ++ S4)) := by rw [take_snoc htj]; exact ThSs.snoc h0 ⟨s3o, s3c, s4o, s4c, obk s3o, S4, rfl, ⟨h3, rfl⟩, h4, rfl⟩
  have stN := (((st.pick [5, 2, 1, 4, 6, 7, 8, 9] rfl (by decide)).joinN 3 (q := .tree (S ++ (obk s3o ++ S4)) fun w => ThSs 60 56 52 w (p.threads.take (j + 1)) (xs ++ thL t s3o s4o s3c s4c) (S ++ (obk s3o ++ S4))) (fun k hk => by
    simp only [Res.at?, List.mem_append] at hk
    rcases hk with h | h | h
    · exact ⟨_, .head _, h⟩
    · exact ⟨_, .tail _ (.head _), by simpa [Res.at?, obk_own] using h⟩
    · exact ⟨_, .tail _ (.tail _ (.head _)), h⟩) (holds_of h5 h5.lt (fun a b h hk => h.kept hk)))).pick [1, 0, 2, 3, 4, 5] rfl (by decide)
  refine vy (y_add rfl rfl (by omega : _ = ((j + 1 : Nat) : Int)) (by omega) (by omega)) ?_
  refine ym ?_
  refine vc_end ?_
  refine vq_again (j + 1, oaQ, capQ, xs ++ thL t s3o s4o s3c s4c, S ++ (obk s3o ++ S4))  ⟨rfl, rfl, rfl, rfl, rfl, trivial⟩ stN ?_ ?_
  ·exact ⟨by dsimp only; omega, hSS.app hNq hne⟩
  dsimp only; omega
 intro hc17
 try simp only [dn] at hc17
 obtain rfl : j = p.threads.length := by omega
 rw [List.take_length] at st
 refine vc_exit (vq_then_exit (vq_then_exit (vq_block_exit (vq_then (vk2 2 3 (sr ?_))))))
 refine yla st 2 [_, _, _] isAgg25 sizeOf25 ?_
 refine vc_e (e_sts (vs := [_, _, _]) st 5 rfl rfl rfl rfl rfl sizeOf25 rfl rfl (by (right; assumption)) ?_)
 intro w st; dsimp only [setNth, wr] at st
 refine et (vk1 2 (vc_ret ?_))
 refine vq_ret1 st (.inl rfl) results9 (by exact .cell 5 rfl rfl isAgg25 sizeOf25) ?_
 refine ⟨_, rfl, ?_⟩
 obtain ⟨h1, h2⟩ := st.ownNw (i := 0) rfl
 have h3 := (st.res (i := 1) rfl).1
 obtain ⟨h4, hN1⟩ := st.ownNw (i := 3) rfl
 obtain ⟨h5, hN2⟩ := st.ownNw (i := 4) rfl
 have e0 := st.ne (i := 0) (j := 1) (by decide) rfl rfl
 have e1 := st.ne (i := 3) (j := 4) (by decide) rfl rfl
 have e2 := st.ne (i := 3) (j := 0) (by decide) rfl rfl
 have e3 := st.ne (i := 3) (j := 1) (by decide) rfl rfl
 have e4 := st.ne (i := 4) (j := 0) (by decide) rfl rfl
 have e5 := st.ne (i := 4) (j := 1) (by decide) rfl rfl
 simp only [Res.at?, obk_own] at e0 e1 e2 e3 e4 e5
 exact ⟨_, obk s1o ++ (obk s2o ++ (obk oj ++ S)), rfl, ⟨s1o, s1c, s2o, s2c, oj, cj, obk s1o, obk s2o, obk oj ++ S, rfl, ⟨h4, rfl⟩, ⟨h5, rfl⟩, ⟨xs, S, h1, rfl, h3⟩, rfl⟩,
   hN1.app (hN2.app (h2.app hSS e0) (fun b hb hb' => (List.mem_append.1 hb').elim (e4 b hb) (e5 b hb))) (fun b hb hb' => (List.mem_append.1 hb').elim (e1 b hb) fun h => (List.mem_append.1 h).elim (e2 b hb) (e3 b hb)), st.chg⟩
end
end Go.Proofs.YtggnfanphcaamaaGreatDoor


/- The parser does not see places: tokens that are one but for places give trees that are one but for places. -/
namespace ParS
open Sx LexS

section
variable {e e' : Nat}
def rE (x y : Ex) : Prop := sameE x y = true
end
end ParS


/- A text that is printed is cut into the tokens of its tree. -/
namespace ParS
open Sx LexS

/-! ### expressions -/
end ParS


/- The tokens of statements and programs, and that they are parsed as what they are of. -/
namespace ParS
open Sx LexS

section
variable {e : Nat}
end
end ParS


/- A program's text that is printed is cut into its tokens, and parsed as it was, but for places. -/
namespace ParS
open Sx LexS

section
variable {e : Nat}
end
end ParS


/- What is parsed may be written: expressions. -/
namespace ParS
open Sx LexS

structure TkOk (t : Tok) : Prop where
  name : t.kind = 1 → isName t.text = true
  word : t.word ≤ 9223372036854775807
  at_ : t.at_ ≤ 1048576
def TsOk (ts : List Tok) : Prop := (∀ t ∈ ts, TkOk t) ∧ ts.length ≤ 1048576
theorem TsOk.tail {ts : List Tok} (h : TsOk ts) : TsOk ts.tail := ⟨fun t ht => h.1 t (List.mem_of_mem_tail ht), by rw [List.length_tail]; have := h.2; omega⟩
theorem TsOk.here {ts : List Tok} (h : TsOk ts) : TkOk (ParS.here ts) := by
  cases ts with
  | nil => exact ⟨fun h => (by cases h), by simp [ParS.here, tok0], by simp [ParS.here, tok0]⟩
  | cons x l => exact h.1 x (.head _)
theorem i64_nat {n : Nat} (h : n ≤ 9223372036854775807) : i64 (n : Int) := ⟨by omega, by omega⟩
theorem i64_neg {n : Nat} (h : n ≤ 9223372036854775807) : i64 (-(n : Int)) := ⟨by omega, by omega⟩
theorem TkOk.ati {t : Tok} (h : TkOk t) : i64 (t.at_ : Int) := i64_nat (by have := h.at_; omega)
theorem rightE_mono : ∀ (n : Nat) (x : Ex), SizeOf.sizeOf x = n → ∀ d d', rightE x d = true → d' ≤ d → rightE x d' = true := by
  intro n
  refine Nat.strongRecOn n fun n ih => ?_
  intro x hn d d' hr hd
  obtain ⟨hle, hcase⟩ := rightE_iff.1 hr
  refine rightE_iff.2 ⟨by omega, ?_⟩
  have hkid : ∀ y, y ∈ x.kids → ∀ a b, rightE y a = true → b ≤ a → rightE y b = true := fun y hy a b h1 h2 => ih _ (by have := memE_lt hy; omega) y rfl a b h1 h2
  rcases hcase with h | h | h | h
  · exact .inl h
  · exact .inr (.inl h)
  · obtain ⟨h1, h2, h3, h4, y, hy, hry⟩ := h
    refine .inr (.inr (.inl ⟨h1, h2, h3, h4, y, hy, hkid y (by rw [hy]; exact .head _) _ _ hry ?_⟩))
    split <;> omega
  · obtain ⟨h1, h2, h3, h4, y, z, hyz, hry, hrz⟩ := h
    refine .inr (.inr (.inr ⟨h1, h2, h3, h4, y, z, hyz, hkid y (by rw [hyz]; exact .head _) _ _ hry ?_, hkid z (by rw [hyz]; exact .tail _ (.head _)) _ _ hrz ?_⟩))
    · split <;> omega
    · split <;> omega
theorem right_le {x : Ex} {d d' : Nat} (h : rightE x d = true) (hd : d' ≤ d) : rightE x d' = true := rightE_mono _ x rfl d d' h hd
/-- a tree that may be a part at the depth 'd' -/
structure Prt (x : Ex) (d : Nat) : Prop where
  ok : OkE x
  r : rightE x d = true
  par : x.k = 4 → rightE x (d + 1) = true
/-- how an operand's reader answers -/
def Reads (u : List Tok → PR Ex) (d : Nat) : Prop := ∀ r x r', TsOk r → u r = .ok (x, r') → Prt x d ∧ TsOk r'
theorem findO_two {s : List UInt8} {op : Nat} (h : findO s = some op) : twoOp (op : Int) = true := by
  unfold findO at h
  have h1 := List.find?_some h
  simp only [Bool.and_eq_true] at h1
  exact h1.1
theorem opT_two {t : Tok} {op : Nat} (h : opT t = some op) : twoOp (op : Int) = true := by
  unfold opT at h; split at h
  · exact findO_two h
  · cases h
theorem okE_bin {op : Nat} {a : Nat} {x y : Ex} (hop : twoOp (op : Int) = true) (ha : i64 (a : Int)) (hx : OkE x) (hy : OkE y) : OkE (binE op a x y) := by
  simp only [twoOp, decide_eq_true_eq] at hop
  refine .mk ⟨by decide, by decide⟩ ⟨by omega, by omega⟩ ⟨by decide, by decide⟩ ha (by simp) ?_
  intro j z hz
  match j, hz with
  | 0, hz => simp at hz; subst hz; exact hx
  | 1, hz => simp at hz; subst hz; exact hy
  | j + 2, hz => simp at hz
theorem loopE_right {u : List Tok → PR Ex} {d : Nat} (hd : d ≤ 64) (hu : Reads u d) : ∀ (n : Nat) (lv : Int) (x : Ex) (r : List Tok) (z : Ex) (r' : List Tok), TsOk r → loopE u n lv x r = .ok (z, r') →
    OkE x → rightE x d = true → (x.k = 4 → rightE x (d + 1) = true ∨ lv ≤ lvlO x.op) → (x.k = 4 → rightE x (d + 1) = true ∨ ∀ o, opT (here r) = some o → lvlO (o : Int) ≤ lvlO x.op) →
    OkE z ∧ rightE z d = true ∧ (z.k = 4 → rightE z (d + 1) = true ∨ lv ≤ lvlO z.op) ∧ (∀ o, opT (here r') = some o → lvlO (o : Int) < lv) ∧ TsOk r'
  | 0, lv, x, r, z, r', _, h, _, _, _, _ => by simp [loopE] at h
  | n + 1, lv, x, r, z, r', hr, h, h1, h2, h3, h4 => by
    simp only [loopE] at h
    cases hop : opT (here r) with
    | none =>
      rw [hop] at h; cases h
      exact ⟨h1, h2, h3, fun o ho => (by rw [hop] at ho; cases ho), hr⟩
    | some op =>
      rw [hop] at h
      simp only at h
      split at h
      · rename_i hlt
        cases h
        exact ⟨h1, h2, h3, fun o ho => (by rw [hop] at ho; cases ho; exact hlt), hr⟩
      · rename_i hge
        cases hy : u r.tail with
        | error f => rw [hy] at h; cases h
        | ok p =>
          obtain ⟨y, r1⟩ := p
          rw [hy] at h
          simp only at h
          obtain ⟨py, hr1⟩ := hu _ _ _ hr.tail hy
          cases hz : loopE u n (lvlO (op : Int) + 1) y r1 with
          | error f => rw [hz] at h; cases h
          | ok q =>
            obtain ⟨z1, r2⟩ := q
            rw [hz] at h
            simp only at h
            obtain ⟨a1, a2, a3, a4, a5⟩ := loopE_right hd hu n _ _ _ _ _ hr1 hz py.ok py.r (fun k => .inl (py.par k)) (fun k => .inl (py.par k))
            have htwo := opT_two hop
            have hleft : rightE x (if inn (op : Int) x false = true then d + 1 else d) = true := by
              split
              · rename_i hin
                unfold inn at hin
                simp only [Bool.and_eq_true, decide_eq_true_eq, Bool.false_and, Bool.or_false] at hin
                rcases h4 hin.1 with k | k
                · exact k
                · have := k op hop; omega
              · exact h2
            have hright : rightE z1 (if inn (op : Int) z1 true = true then d + 1 else d) = true := by
              split
              · rename_i hin
                unfold inn at hin
                simp only [Bool.and_eq_true, decide_eq_true_eq, Bool.true_and, Bool.or_eq_true] at hin
                rcases a3 hin.1 with k | k
                · exact k
                · rcases hin.2 with k2 | k2 <;> omega
              · exact a2
            have hb : rightE (binE op (here r).at_ x z1) d = true := rightE_iff.2 ⟨hd, .inr (.inr (.inr ⟨rfl, htwo, rfl, rfl, x, z1, rfl, hleft, hright⟩))⟩
            exact loopE_right hd hu n lv _ r2 z r' a5 h (okE_bin htwo hr.here.ati h1 a1) hb (fun _ => .inr (by show lv ≤ lvlO (op : Int); omega)) (fun _ => .inr fun o ho => by have := a4 o ho; show lvlO (o : Int) ≤ lvlO (op : Int); omega)
theorem exprW_right {u : List Tok → PR Ex} {d : Nat} (hd : d ≤ 64) (hg : Goes u) (hu : Reads u d) {r r' : List Tok} {x : Ex} (hr : TsOk r) (h : exprW u r = .ok (x, r')) : OkE x ∧ rightE x d = true ∧ TsOk r' := by
  rw [← climbE_expr u hg] at h
  unfold climbE at h
  cases hx : u r with
  | error f => rw [hx] at h; cases h
  | ok p =>
    obtain ⟨y, r1⟩ := p
    rw [hx] at h
    simp only at h
    obtain ⟨py, hr1⟩ := hu _ _ _ hr hx
    obtain ⟨a1, a2, a3, a4, a5⟩ := loopE_right hd hu _ _ _ _ _ _ hr1 h py.ok py.r (fun k => .inl (py.par k)) (fun k => .inl (py.par k))
    exact ⟨a1, a2, a5⟩
theorem leaf_right (e : Nat) {d : Nat} (hd : d ≤ 64) : Reads (leafP e) d := by
  intro r x r' hr h
  unfold leafP at h
  have hh := hr.here
  split at h
  · cases h
    refine ⟨⟨.mk ⟨by decide, by decide⟩ ⟨by decide, by decide⟩ (i64_nat hh.word) hh.ati (by simp) (fun j z hz => by simp at hz), rightE_iff.2 ⟨hd, .inl ⟨rfl, by simp [Ex.wd], rfl, rfl, rfl⟩⟩, fun k => by simp [Ex.k] at k⟩, hr.tail⟩
  · split at h
    · rename_i hk
      cases h
      refine ⟨⟨.mk ⟨by decide, by decide⟩ ⟨by decide, by decide⟩ ⟨by decide, by decide⟩ hh.ati (by simp) (fun j z hz => by simp at hz), rightE_iff.2 ⟨hd, .inr (.inl ⟨rfl, hh.name hk, rfl, rfl, rfl⟩)⟩, fun k => by simp [Ex.k] at k⟩, hr.tail⟩
    · cases h
theorem unary_right (e : Nat) : ∀ (m d : Nat), d + m = 64 → Reads (unaryP e m) d
  | 0, d, hd => by
    intro r x r' hr h
    simp only [unaryP] at h
    split at h
    · cases h
    · exact leaf_right e (by omega) r x r' hr h
  | m + 1, d, hd => by
    intro r x r' hr h
    simp only [unaryP] at h
    have ih := unary_right e m (d + 1) (by omega)
    split at h
    · split at h
      · cases hx : exprW (unaryP e m) r.tail with
        | error f => rw [hx] at h; cases h
        | ok p =>
          obtain ⟨y, r1⟩ := p
          rw [hx] at h
          simp only at h
          obtain ⟨a1, a2, a3⟩ := exprW_right (by omega) (unary_goes e m) ih hr.tail hx
          cases hw : want e [41] r1 with
          | error f => rw [hw] at h; cases h
          | ok r2 =>
            rw [hw] at h
            cases h
            obtain ⟨_, rfl⟩ := want_ok hw
            exact ⟨⟨a1, right_le a2 (by omega), fun _ => a2⟩, a3.tail⟩
      · cases hx : unaryP e m r.tail with
        | error f => rw [hx] at h; cases h
        | ok p =>
          obtain ⟨y, r1⟩ := p
          rw [hx] at h
          cases h
          obtain ⟨py, hr1⟩ := ih _ _ _ hr.tail hx
          have hop : oneOp (if (here r).text = [33] then 18 else 17) = true := by split <;> decide
          refine ⟨⟨.mk ⟨by decide, by decide⟩ (by split <;> exact ⟨by decide, by decide⟩) ⟨by decide, by decide⟩ hr.here.ati (by simp) (fun j z hz => ?_), rightE_iff.2 ⟨by omega, .inr (.inr (.inl ⟨rfl, hop, rfl, rfl, y, rfl, ?_⟩))⟩, fun k => by simp [Ex.k] at k⟩, hr1⟩
          · match j, hz with
            | 0, hz => simp at hz; subst hz; exact py.ok
            | j + 1, hz => simp at hz
          · split
            · rename_i hk; exact py.par hk
            · exact py.r
    · exact leaf_right e (by omega) r x r' hr h
theorem expr_right {e : Nat} {r r' : List Tok} {x : Ex} (hr : TsOk r) (h : exprP e 64 r = .ok (x, r')) : OkE x ∧ rightE x 0 = true ∧ TsOk r' := exprW_right (by omega) (unary_goes e 64) (unary_right e 64 0 rfl) hr h
end ParS


/- What is parsed may be written: statements, programs. -/
namespace ParS
open Sx LexS

def SReads (st : List Tok → PR Sm) (d : Nat) : Prop := ∀ r s r', TsOk r → st r = .ok (s, r') → OkS s ∧ rightS s d = true ∧ TsOk r'
def BReads (bk : List Tok → PR (List Sm)) (d : Nat) : Prop := ∀ r l r', TsOk r → bk r = .ok (l, r') → OkSs l ∧ (d < 64 ∧ rightSs l (d + 1) = true) ∧ TsOk r'
section
variable {e : Nat} (he : e ≤ 1048576)
theorem want_ts {s : List UInt8} {r r' : List Tok} (hr : TsOk r) (h : want e s r = .ok r') : TsOk r' := by obtain ⟨_, rfl⟩ := want_ok h; exact hr.tail
theorem name_ts {r r' : List Tok} {t : Tok} (hr : TsOk r) (h : nameP e r = .ok (t, r')) : isName t.text = true ∧ i64 (t.at_ : Int) ∧ TsOk r' := by
  unfold nameP at h; split at h
  · rename_i hk; cases h; exact ⟨hr.here.name hk, hr.here.ati, hr.tail⟩
  · cases h
include he in
theorem atT_i64 {r : List Tok} (hr : TsOk r) : i64 (atT e r : Int) := by
  cases r with
  | nil => exact i64_nat (by show e ≤ _; omega)
  | cons t l => exact TkOk.ati (hr.1 t (.head _))
theorem cond_ts {r r' : List Tok} {x : Ex} (hr : TsOk r) (h : condP e r = .ok (x, r')) : OkE x ∧ rightE x 0 = true ∧ TsOk r' := by
  unfold condP at h
  cases h1 : want e [40] r with
  | error f => rw [h1] at h; cases h
  | ok r1 =>
    rw [h1] at h; simp only at h
    have k1 := want_ts hr h1
    cases h2 : exprP e 64 r1 with
    | error f => rw [h2] at h; cases h
    | ok p =>
      obtain ⟨y, r2⟩ := p
      rw [h2] at h; simp only at h
      obtain ⟨a1, a2, k2⟩ := expr_right k1 h2
      cases h3 : want e [41] r2 with
      | error f => rw [h3] at h; cases h
      | ok r3 => rw [h3] at h; cases h; exact ⟨a1, a2, want_ts k2 h3⟩
theorem semi_ts {r r' : List Tok} {x : Ex} (hr : TsOk r) (h : exprSemi e r = .ok (x, r')) : OkE x ∧ rightE x 0 = true ∧ TsOk r' := by
  unfold exprSemi at h
  cases h2 : exprP e 64 r with
  | error f => rw [h2] at h; cases h
  | ok p =>
    obtain ⟨y, r2⟩ := p
    rw [h2] at h; simp only at h
    obtain ⟨a1, a2, k2⟩ := expr_right hr h2
    cases h3 : want e [59] r2 with
    | error f => rw [h3] at h; cases h
    | ok r3 => rw [h3] at h; cases h; exact ⟨a1, a2, want_ts k2 h3⟩
theorem swap_ts {r r' : List Tok} {o : List UInt8} {x : Ex} (hr : TsOk r) (h : swapP e r = .ok ((o, x), r')) : isName o = true ∧ OkE x ∧ rightE x 0 = true ∧ TsOk r' := by
  unfold swapP at h
  cases h1 : want e [40] r with
  | error f => rw [h1] at h; cases h
  | ok r1 =>
    rw [h1] at h; simp only at h
    have k1 := want_ts hr h1
    cases hn : nameP e r1 with
    | error f => rw [hn] at h; cases h
    | ok p =>
      obtain ⟨t, r2⟩ := p
      rw [hn] at h; simp only at h
      obtain ⟨n1, _, k2⟩ := name_ts k1 hn
      cases h3 : want e [44] r2 with
      | error f => rw [h3] at h; cases h
      | ok r3 =>
        rw [h3] at h; simp only at h
        have k3 := want_ts k2 h3
        cases h4 : exprP e 64 r3 with
        | error f => rw [h4] at h; cases h
        | ok p =>
          obtain ⟨y, r4⟩ := p
          rw [h4] at h; simp only at h
          obtain ⟨a1, a2, k4⟩ := expr_right k3 h4
          cases h5 : want e [41] r4 with
          | error f => rw [h5] at h; cases h
          | ok r5 =>
            rw [h5] at h; simp only at h
            have k5 := want_ts k4 h5
            cases h6 : want e [59] r5 with
            | error f => rw [h6] at h; cases h
            | ok r6 => rw [h6] at h; cases h; exact ⟨n1, a1, a2, want_ts k5 h6⟩
theorem okEs_one {x : Ex} (h : OkE x) : OkEs [x] := ⟨by simp, fun j y hy => by
  match j, hy with
  | 0, hy => simp at hy; subst hy; exact h
  | j + 1, hy => simp at hy⟩
theorem okSs_nil : OkSs [] := ⟨by simp, fun j y hy => by simp at hy⟩
theorem okEs_nil : OkEs [] := ⟨by simp, fun j y hy => by simp at hy⟩
theorem okS_mk {k : Int} {nm other : List UInt8} {es : List Ex} {body els : List Sm} {a : Int} (hk : u8 k) (ha : i64 a) (h1 : OkEs es) (h2 : OkSs body) (h3 : OkSs els) : OkS (.mk k nm other es body els a) := .mk hk ha h1 h2.1 h2.2 h3.1 h3.2
include he in
theorem assign_ts {r r0 r' : List Tok} {s : Sm} {d : Nat} (hr0 : TsOk r0) (hr : TsOk r) (h : assignP e (atT e r0) r = .ok (s, r')) : OkS s ∧ rightS s d = true ∧ TsOk r' := by
  have ha := atT_i64 he hr0
  unfold assignP at h
  cases hn : nameP e r with
  | error f => rw [hn] at h; cases h
  | ok p =>
    obtain ⟨t, r1⟩ := p
    rw [hn] at h; simp only at h
    obtain ⟨n1, _, k1⟩ := name_ts hr hn
    cases h2 : want e [61] r1 with
    | error f => rw [h2] at h; cases h
    | ok r2 =>
      rw [h2] at h; simp only at h
      have k2 := want_ts k1 h2
      split at h
      · cases h3 : swapP e r2.tail with
        | error f => rw [h3] at h; cases h
        | ok p =>
          obtain ⟨⟨o, x⟩, r3⟩ := p
          rw [h3] at h; simp only at h
          cases h
          obtain ⟨n2, a1, a2, k3⟩ := swap_ts k2.tail h3
          refine ⟨okS_mk ⟨by decide, by decide⟩ ha (okEs_one a1) okSs_nil okSs_nil, ?_, k3⟩
          rw [rightS]; simp [hasN, hasE, hasB, nmOk, rightX, rightSs, n1, n2, a2]
      · cases h3 : exprSemi e r2 with
        | error f => rw [h3] at h; cases h
        | ok p =>
          obtain ⟨x, r3⟩ := p
          rw [h3] at h; simp only at h
          cases h
          obtain ⟨a1, a2, k3⟩ := semi_ts k2 h3
          refine ⟨okS_mk ⟨by decide, by decide⟩ ha (okEs_one a1) okSs_nil okSs_nil, ?_, k3⟩
          rw [rightS]; simp [hasN, hasE, hasB, nmOk, rightX, rightSs, n1, a2]
include he in
theorem stmtW_right {bk : List Tok → PR (List Sm)} {d : Nat} (hb : BReads bk d) : SReads (stmtW e bk) d := by
  intro r s r' hr h
  have ha := atT_i64 he hr
  unfold stmtW at h
  split at h
  · cases h1 : condP e r.tail with
    | error f => rw [h1] at h; cases h
    | ok p =>
      obtain ⟨x, r1⟩ := p
      rw [h1] at h; simp only at h
      obtain ⟨a1, a2, k1⟩ := cond_ts hr.tail h1
      cases h2 : bk r1 with
      | error f => rw [h2] at h; cases h
      | ok p =>
        obtain ⟨b, r2⟩ := p
        rw [h2] at h; simp only at h
        obtain ⟨b1, b2, k2⟩ := hb _ _ _ k1 h2
        split at h
        · cases h3 : bk r2.tail with
          | error f => rw [h3] at h; cases h
          | ok p =>
            obtain ⟨l, r3⟩ := p
            rw [h3] at h; simp only at h
            cases h
            obtain ⟨c1, c2, k3⟩ := hb _ _ _ k2.tail h3
            refine ⟨okS_mk ⟨by decide, by decide⟩ ha (okEs_one a1) b1 c1, ?_, k3⟩
            rw [rightS]; simp [hasN, hasE, hasB, nmOk, rightX, a2, b2.1, b2.2, c2.2]
        · cases h
          refine ⟨okS_mk ⟨by decide, by decide⟩ ha (okEs_one a1) b1 okSs_nil, ?_, k2⟩
          rw [rightS]; simp [hasN, hasE, hasB, nmOk, rightX, rightSs, a2, b2.1, b2.2]
  · split at h
    · cases h1 : condP e r.tail with
      | error f => rw [h1] at h; cases h
      | ok p =>
        obtain ⟨x, r1⟩ := p
        rw [h1] at h; simp only at h
        obtain ⟨a1, a2, k1⟩ := cond_ts hr.tail h1
        cases h2 : bk r1 with
        | error f => rw [h2] at h; cases h
        | ok p =>
          obtain ⟨b, r2⟩ := p
          rw [h2] at h; simp only at h
          cases h
          obtain ⟨b1, b2, k2⟩ := hb _ _ _ k1 h2
          refine ⟨okS_mk ⟨by decide, by decide⟩ ha (okEs_one a1) b1 okSs_nil, ?_, k2⟩
          rw [rightS]; simp [hasN, hasE, hasB, nmOk, rightX, rightSs, a2, b2.1, b2.2]
    · split at h
      · cases h1 : nameP e r.tail with
        | error f => rw [h1] at h; cases h
        | ok p =>
          obtain ⟨t, r1⟩ := p
          rw [h1] at h; simp only at h
          obtain ⟨n1, _, k1⟩ := name_ts hr.tail h1
          cases h2 : bk r1 with
          | error f => rw [h2] at h; cases h
          | ok p =>
            obtain ⟨b, r2⟩ := p
            rw [h2] at h; simp only at h
            cases h
            obtain ⟨b1, b2, k2⟩ := hb _ _ _ k1 h2
            refine ⟨okS_mk ⟨by decide, by decide⟩ ha okEs_nil b1 okSs_nil, ?_, k2⟩
            rw [rightS]; simp [hasN, hasE, hasB, nmOk, rightX, rightSs, n1, b2.1, b2.2]
      · split at h
        · cases h1 : exprSemi e r.tail with
          | error f => rw [h1] at h; cases h
          | ok p =>
            obtain ⟨x, r1⟩ := p
            rw [h1] at h; simp only at h
            cases h
            obtain ⟨a1, a2, k1⟩ := semi_ts hr.tail h1
            refine ⟨okS_mk ⟨by decide, by decide⟩ ha (okEs_one a1) okSs_nil okSs_nil, ?_, k1⟩
            rw [rightS]; simp [hasN, hasE, hasB, nmOk, rightX, rightSs, a2]
        · split at h
          · cases h1 : want e [59] r.tail with
            | error f => rw [h1] at h; cases h
            | ok r1 =>
              rw [h1] at h; simp only at h
              cases h
              refine ⟨okS_mk ⟨by decide, by decide⟩ ha okEs_nil okSs_nil okSs_nil, ?_, want_ts hr.tail h1⟩
              rw [rightS]; simp [hasN, hasE, hasB, nmOk, rightX, rightSs]
          · exact assign_ts he hr hr h
theorem restW_right {st : List Tok → PR Sm} {d : Nat} (hs : SReads st d) : ∀ (n : Nat) (r : List Tok) (l : List Sm) (r' : List Tok), TsOk r → restW st n r = .ok (l, r') → (l.length < n ∧ ∀ x ∈ l, OkS x) ∧ rightSs l d = true ∧ TsOk r'
  | 0, r, l, r', _, h => by simp [restW] at h
  | n + 1, r, l, r', hr, h => by
    simp only [restW] at h
    split at h
    · cases h; exact ⟨⟨by simp, by simp⟩, rfl, hr.tail⟩
    · cases h1 : st r with
      | error f => rw [h1] at h; cases h
      | ok p =>
        obtain ⟨s, r1⟩ := p
        rw [h1] at h; simp only at h
        obtain ⟨a1, a2, k1⟩ := hs _ _ _ hr h1
        cases h2 : restW st n r1 with
        | error f => rw [h2] at h; cases h
        | ok p =>
          obtain ⟨l2, r2⟩ := p
          rw [h2] at h; simp only at h
          cases h
          obtain ⟨⟨b1, b2⟩, b3, k2⟩ := restW_right hs n r1 l2 _ k1 h2
          refine ⟨⟨by simp; omega, fun x hx => ?_⟩, by rw [rightSs, a2, b3]; rfl, k2⟩
          rcases List.mem_cons.1 hx with rfl | hx
          · exact a1
          · exact b2 x hx
theorem okSs_of {l : List Sm} (h : l.length ≤ 1099511627776) (hx : ∀ x ∈ l, OkS x) : OkSs l := ⟨h, fun j x hj => hx x (List.mem_of_getElem? hj)⟩
include he in
theorem stmt_right : ∀ (m d : Nat), d + m = 64 → SReads (stmtP e m) d
  | 0, d, hd => by
    intro r s r' hr h
    rw [stmtP] at h
    refine stmtW_right he (bk := fun r => if isT [123] r = true then fail e 3 r else fail e 2 r) (fun r l r' _ h => ?_) r s r' hr h
    dsimp only at h
    split at h <;> cases h
  | m + 1, d, hd => by
    intro r s r' hr h
    rw [stmtP] at h
    refine stmtW_right he (bk := fun r => match want e [123] r with | .error f => .error f | .ok r1 => restW (stmtP e m) (r1.length + 1) r1) (fun r l r' hr h => ?_) r s r' hr h
    dsimp only at h
    cases h1 : want e [123] r with
    | error f => rw [h1] at h; cases h
    | ok r1 =>
      rw [h1] at h; simp only at h
      have k1 := want_ts hr h1
      obtain ⟨⟨a1, a2⟩, a3, k2⟩ := restW_right (stmt_right m (d + 1) (by omega)) _ _ _ _ k1 h
      exact ⟨okSs_of (by have := k1.2; omega) a2, ⟨by omega, a3⟩, k2⟩
include he in
theorem rest_right {r r' : List Tok} {l : List Sm} (hr : TsOk r) (h : restP e 63 r = .ok (l, r')) : OkSs l ∧ rightSs l 1 = true ∧ TsOk r' := by
  obtain ⟨⟨a1, a2⟩, a3, k⟩ := restW_right (stmt_right he 63 1 rfl) _ _ _ _ hr h
  exact ⟨okSs_of (by have := hr.2; omega) a2, a3, k⟩

/-! ### programs -/
def DOk (b : Bool) (x : Dc) : Prop := dcOk b x = true ∧ i64 x.wd ∧ i64 x.a
theorem decl_right {r r' : List Tok} {x : Dc} (hr : TsOk r) (h : declP e r = .ok (x, r')) : DOk false x ∧ TsOk r' := by
  unfold declP at h
  cases hn : nameP e r with
  | error f => rw [hn] at h; cases h
  | ok p =>
    obtain ⟨t, r1⟩ := p
    rw [hn] at h; simp only at h
    cases h
    obtain ⟨n1, n2, k⟩ := name_ts hr hn
    exact ⟨⟨by simp [dcOk, n1], i64_nat (n := 0) (by omega), n2⟩, k⟩
theorem init_right {r r' : List Tok} {x : Dc} (hr : TsOk r) (h : initP e r = .ok (x, r')) : DOk true x ∧ TsOk r' := by
  unfold initP at h
  cases hn : nameP e r with
  | error f => rw [hn] at h; cases h
  | ok p =>
    obtain ⟨t, r1⟩ := p
    rw [hn] at h; simp only at h
    obtain ⟨n1, n2, k⟩ := name_ts hr hn
    split at h
    · obtain ⟨R, hR⟩ : ∃ R, R = (if isT [45] r1.tail = true then r1.tail.tail else r1.tail) := ⟨_, rfl⟩
      have kR : TsOk R := by
        rw [hR]; split
        · exact k.tail.tail
        · exact k.tail
      rw [← hR] at h
      split at h
      · cases h
      · rename_i y r2 hw
        cases h
        unfold wordP at hw
        split at hw
        · cases hw
          have hh := kR.here.word
          refine ⟨⟨?_, ?_, n2⟩, kR.tail⟩
          · simp only [dcOk, n1, Bool.true_and, if_true, decide_eq_true_eq, ne_eq]; split <;> omega
          · show i64 (if _ then _ else _)
            split
            · exact i64_neg hh
            · exact i64_nat hh
        · cases hw
    · cases h
      exact ⟨⟨by simp [dcOk, n1], i64_nat (n := 0) (by omega), n2⟩, k⟩
theorem decl_len {r r' : List Tok} {x : Dc} (h : declP e r = .ok (x, r')) : r'.length < r.length := by
  unfold declP nameP at h
  split at h
  · cases h
  · rename_i t r1 hn
    split at hn
    · rename_i hk
      cases hn; cases h
      exact tail_lt (kind_ne hk (by decide))
    · cases hn
theorem init_len {r r' : List Tok} {x : Dc} (h : initP e r = .ok (x, r')) : r'.length < r.length := by
  unfold initP nameP at h
  split at h
  · cases h
  · rename_i t r1 hn
    split at hn
    · rename_i hk
      cases hn
      have h0 := tail_lt (kind_ne hk (by decide))
      split at h
      · obtain ⟨R, hR⟩ : ∃ R, R = (if isT [45] r.tail.tail = true then r.tail.tail.tail else r.tail.tail) := ⟨_, rfl⟩
        have kR : R.length ≤ r.tail.length := by rw [hR]; split <;> simp only [List.length_tail] <;> omega
        rw [← hR] at h
        unfold wordP at h
        split at h
        · cases h
        · rename_i y r2 hw
          split at hw
          · cases hw; cases h
            have : R.tail.length ≤ R.length := by simp
            omega
          · cases hw
      · cases h; exact h0
    · cases hn
theorem list_right {one : List Tok → PR Dc} {b : Bool} (ho : ∀ r x r', TsOk r → one r = .ok (x, r') → DOk b x ∧ TsOk r') (hl : ∀ r x r', one r = .ok (x, r') → r'.length < r.length) : ∀ (n : Nat) (r : List Tok) (l : List Dc) (r' : List Tok), TsOk r → listP e one n r = .ok (l, r') → (∀ x ∈ l, DOk b x) ∧ l.length + r'.length ≤ r.length ∧ TsOk r'
  | 0, r, l, r', _, h => by simp [listP] at h
  | n + 1, r, l, r', hr, h => by
    simp only [listP] at h
    cases h1 : one r with
    | error f => rw [h1] at h; cases h
    | ok p =>
      obtain ⟨x, r1⟩ := p
      rw [h1] at h; simp only at h
      obtain ⟨a1, k1⟩ := ho _ _ _ hr h1
      have g1 := hl _ _ _ h1
      split at h
      · rename_i hc
        cases h2 : listP e one n r1.tail with
        | error f => rw [h2] at h; cases h
        | ok p =>
          obtain ⟨l2, r2⟩ := p
          rw [h2] at h; simp only at h
          cases h
          obtain ⟨b1, b2, k2⟩ := list_right ho hl n _ _ _ k1.tail h2
          have := tail_lt (isT_ne hc)
          refine ⟨fun y hy => ?_, by simp only [List.length_cons]; omega, k2⟩
          rcases List.mem_cons.1 hy with rfl | hy
          · exact a1
          · exact b1 y hy
      · cases h2 : want e [59] r1 with
        | error f => rw [h2] at h; cases h
        | ok r2 =>
          rw [h2] at h; simp only at h
          cases h
          obtain ⟨hc, rfl⟩ := want_ok h2
          have := tail_lt (isT_ne hc)
          refine ⟨fun y hy => ?_, by simp only [List.length_cons, List.length_nil]; omega, k1.tail⟩
          simp only [List.mem_cons, List.not_mem_nil, or_false] at hy
          subst hy; exact a1
theorem okD_of {b : Bool} {l : List Dc} (h : l.length ≤ 1099511627776) (hx : ∀ x ∈ l, DOk b x) : OkD l := ⟨h, fun j x hj => (hx x (List.mem_of_getElem? hj)).2⟩
theorem all_of {b : Bool} {l : List Dc} (hx : ∀ x ∈ l, DOk b x) : l.all (dcOk b) = true := List.all_eq_true.2 fun x h => (hx x h).1
theorem locals_right : ∀ (n : Nat) (r : List Tok) (l : List Dc) (r' : List Tok), TsOk r → localsP e n r = .ok (l, r') → (∀ x ∈ l, DOk false x) ∧ l.length + r'.length ≤ r.length ∧ TsOk r'
  | 0, r, l, r', _, h => by simp [localsP] at h
  | n + 1, r, l, r', hr, h => by
    simp only [localsP] at h
    split at h
    · rename_i hc
      have g0 := tail_lt (isT_ne hc)
      cases h1 : listP e (declP e) (r.length + 1) r.tail with
      | error f => rw [h1] at h; cases h
      | ok p =>
        obtain ⟨l1, r1⟩ := p
        rw [h1] at h; simp only at h
        obtain ⟨a1, a2, k1⟩ := list_right (fun _ _ _ h1 h2 => decl_right h1 h2) (fun _ _ _ h => decl_len h) _ _ _ _ hr.tail h1
        cases h2 : localsP e n r1 with
        | error f => rw [h2] at h; cases h
        | ok p =>
          obtain ⟨l2, r2⟩ := p
          rw [h2] at h; simp only at h
          cases h
          obtain ⟨b1, b2, k2⟩ := locals_right n _ _ _ k1 h2
          refine ⟨fun y hy => ?_, by simp only [List.length_append]; omega, k2⟩
          rcases List.mem_append.1 hy with hy | hy
          · exact a1 y hy
          · exact b1 y hy
    · cases h
      exact ⟨by simp, by simp, hr⟩
def TOk (t : Th) : Prop := thOk t = true ∧ OkD t.locals ∧ OkSs t.body ∧ i64 t.a
include he in
theorem thread_right {r r' : List Tok} {t : Th} (hr : TsOk r) (h : threadP e r = .ok (t, r')) : TOk t ∧ TsOk r' := by
  unfold threadP at h
  cases hn : nameP e r with
  | error f => rw [hn] at h; cases h
  | ok p =>
    obtain ⟨t0, r1⟩ := p
    rw [hn] at h; simp only at h
    obtain ⟨n1, n2, k1⟩ := name_ts hr hn
    cases h2 : want e [123] r1 with
    | error f => rw [h2] at h; cases h
    | ok r2 =>
      rw [h2] at h; simp only at h
      have k2 := want_ts k1 h2
      cases h3 : localsP e (r2.length + 1) r2 with
      | error f => rw [h3] at h; cases h
      | ok p =>
        obtain ⟨l, r3⟩ := p
        rw [h3] at h; simp only at h
        obtain ⟨a1, a2, k3⟩ := locals_right _ _ _ _ k2 h3
        cases h4 : restP e 63 r3 with
        | error f => rw [h4] at h; cases h
        | ok p =>
          obtain ⟨b, r4⟩ := p
          rw [h4] at h; simp only at h
          cases h
          obtain ⟨b1, b2, k4⟩ := rest_right he k3 h4
          refine ⟨⟨?_, okD_of (by have := k2.2; show l.length ≤ _; omega) a1, b1, n2⟩, k4⟩
          simp [thOk, n1, all_of a1, b2]
include he in
theorem threads_right : ∀ (n : Nat) (r : List Tok) (l : List Th) (r' : List Tok), TsOk r → threadsP e n r = .ok (l, r') → (∀ x ∈ l, TOk x) ∧ l.length < n ∧ TsOk r'
  | 0, r, l, r', _, h => by simp [threadsP] at h
  | n + 1, r, l, r', hr, h => by
    simp only [threadsP] at h
    split at h
    · cases h1 : threadP e r.tail with
      | error f => rw [h1] at h; cases h
      | ok p =>
        obtain ⟨t, r1⟩ := p
        rw [h1] at h; simp only at h
        obtain ⟨a1, k1⟩ := thread_right he hr.tail h1
        cases h2 : threadsP e n r1 with
        | error f => rw [h2] at h; cases h
        | ok p =>
          obtain ⟨l2, r2⟩ := p
          rw [h2] at h; simp only at h
          cases h
          obtain ⟨b1, b2, k2⟩ := threads_right n _ _ _ k1 h2
          refine ⟨fun y hy => ?_, by simp only [List.length_cons]; omega, k2⟩
          rcases List.mem_cons.1 hy with rfl | hy
          · exact a1
          · exact b1 y hy
    · cases h
      exact ⟨by simp, by simp, hr⟩
include he in
theorem prog_right : ∀ (n : Nat) (r : List Tok) (p : Pg), TsOk r → progP e n r = .ok p → (∀ x ∈ p.shared, DOk true x) ∧ (∀ x ∈ p.locks, DOk false x) ∧ (∀ x ∈ p.threads, TOk x) ∧ p.shared.length + p.locks.length ≤ r.length ∧ p.threads.length ≤ 1048576
  | 0, r, p, _, h => by simp [progP] at h
  | n + 1, r, p, hr, h => by
    simp only [progP] at h
    split at h
    · rename_i hc
      have g0 := tail_lt (isT_ne hc)
      cases h1 : listP e (initP e) (r.length + 1) r.tail with
      | error f => rw [h1] at h; cases h
      | ok q =>
        obtain ⟨l, r1⟩ := q
        rw [h1] at h; simp only at h
        obtain ⟨a1, a2, k1⟩ := list_right (fun _ _ _ h1 h2 => init_right h1 h2) (fun _ _ _ h => init_len h) _ _ _ _ hr.tail h1
        cases h2 : progP e n r1 with
        | error f => rw [h2] at h; cases h
        | ok p2 =>
          rw [h2] at h; simp only at h
          cases h
          obtain ⟨b1, b2, b3, b4, b5⟩ := prog_right n _ _ k1 h2
          refine ⟨fun y hy => ?_, b2, b3, by simp only [List.length_append]; omega, b5⟩
          rcases List.mem_append.1 hy with hy | hy
          · exact a1 y hy
          · exact b1 y hy
    · split at h
      · rename_i hc
        have g0 := tail_lt (isT_ne hc)
        cases h1 : listP e (declP e) (r.length + 1) r.tail with
        | error f => rw [h1] at h; cases h
        | ok q =>
          obtain ⟨l, r1⟩ := q
          rw [h1] at h; simp only at h
          obtain ⟨a1, a2, k1⟩ := list_right (fun _ _ _ h1 h2 => decl_right h1 h2) (fun _ _ _ h => decl_len h) _ _ _ _ hr.tail h1
          cases h2 : progP e n r1 with
          | error f => rw [h2] at h; cases h
          | ok p2 =>
            rw [h2] at h; simp only at h
            cases h
            obtain ⟨b1, b2, b3, b4, b5⟩ := prog_right n _ _ k1 h2
            refine ⟨b1, fun y hy => ?_, b3, by simp only [List.length_append]; omega, b5⟩
            rcases List.mem_append.1 hy with hy | hy
            · exact a1 y hy
            · exact b2 y hy
      · cases h1 : threadsP e (r.length + 1) r with
        | error f => rw [h1] at h; cases h
        | ok q =>
          obtain ⟨l, r1⟩ := q
          rw [h1] at h; simp only at h
          obtain ⟨a1, a2, k1⟩ := threads_right he _ _ _ _ hr h1
          split at h
          · cases h
            exact ⟨by simp, by simp, a1, by simp, by have := hr.2; show l.length ≤ _; omega⟩
          · cases h
end
theorem pg_of {p : Pg} (h1 : ∀ x ∈ p.shared, DOk true x) (h2 : ∀ x ∈ p.locks, DOk false x) (h3 : ∀ x ∈ p.threads, TOk x) (h4 : p.shared.length + p.locks.length ≤ 1048576) (h5 : p.threads.length ≤ 1048576) : pgOk p = true ∧ OkP p := by
  refine ⟨?_, okD_of (by omega) h1, okD_of (by omega) h2, by omega, fun j t hj => (h3 t (List.mem_of_getElem? hj)).2⟩
  unfold pgOk
  rw [all_of h1, all_of h2, List.all_eq_true.2 fun x h => (h3 x h).1]; rfl
theorem front_ts {s : List UInt8} (hs : s.length ≤ 65536) : TsOk (front s).1 := by
  obtain ⟨h1, h2⟩ := front_ok (s := s) (T := (front s).1) (f := (front s).2) rfl
  exact ⟨fun t ht => ⟨(h2 t ht).1, (h2 t ht).2.1, by have := (h2 t ht).2.2; omega⟩, by omega⟩
/-- a program that is parsed may be printed -/
theorem parse_right {s : List UInt8} {p : Pg} {a b : Nat} (h : parseRes s = (p, 0, a, b)) : pgOk p = true ∧ OkP p := by
  unfold parseRes at h
  split at h
  · cases h
  · rename_i hs
    split at h
    · cases h
    · have hts := front_ts (s := s) (by omega)
      split at h
      · cases h
      · rename_i q hq
        cases h
        obtain ⟨h1, h2, h3, h4, h5⟩ := prog_right (e := s.length) (by omega) _ _ _ hts hq
        have := hts.2
        exact pg_of h1 h2 h3 (by omega) h5
end ParS


namespace Go.Proofs.YtggnfanphcaamaaGreatDoor
open Go.RowKit Sx LexS ParS _root_.Go.Proofs.Tryz
section
variable {n : Fr} {kn : Kn} {w : World} {d ty : Nat} {pos : String} {aft : Array Edge} {g : Option (Nat × Bool)}
end
theorem parse_ok {s : List UInt8} {p : Pg} {e a b : Nat} (h : parseRes s = (p, e, a, b)) : OkP p := by
 by_cases h0 : e = 0
 ·subst h0; exact (parse_right h).2
 ·have : p = pg0 := by
   unfold parseRes at h
   split at h
   ·cases h; rfl
   ·split at h
    ·cases h; rfl
    ·split at h
     ·cases h; rfl
     ·cases h; exact absurd rfl h0
  subst this
  exact ⟨⟨by simp [pg0], by simp [pg0]⟩, ⟨by simp [pg0], by simp [pg0]⟩, ⟨by simp [pg0], by simp [pg0]⟩⟩
end Go.Proofs.YtggnfanphcaamaaGreatDoor


/- Trees by their shape alone: what is needed to write over a tree of one's own. -/
namespace Sx
open Go Go.RowKit
/-- a row of one's own, its cells whatever they be -/
def Fl (E sz : Nat) (w : World) (oa : Option Addr) (cap n : Nat) (S : List Nat) : Prop := ∃ xs, w.ownsRow 0 E sz (.slice oa n cap) n xs ∧ S = obk oa
theorem Fl.kept {E sz : Nat} {w w' : World} {oa : Option Addr} {cap n : Nat} {S : List Nat} (h : Fl E sz w oa cap n S) (hk : ∀ b ∈ S, w'.heap[b]? = w.heap[b]?) : Fl E sz w' oa cap n S := by
  obtain ⟨xs, h1, rfl⟩ := h
  exact ⟨xs, owns_kept h1 hk, rfl⟩
theorem Fl.lt {E sz : Nat} {w : World} {oa : Option Addr} {cap n : Nat} {S : List Nat} (h : Fl E sz w oa cap n S) : ∀ b ∈ S, b < w.heap.size := by
  obtain ⟨xs, h1, rfl⟩ := h
  exact fun b hb => (owns_lt h1 b hb).2
/-- a place in a tree that may be written over: what is said of the tree stays -/
def AtF (φ : World → Prop) (w : World) (oa : Option Addr) (sz j : Nat) (S : List Nat) : Prop := ∃ b, oa = some ⟨b, 0, none⟩ ∧ b ∈ S ∧ (∀ i, i < sz → ∃ u, w.cell? ⟨b, j * sz + i, none⟩ = some u) ∧ (∀ i, w.frozen? ⟨b, i, none⟩ = false) ∧ ∀ i u, i < sz → φ (w.setCell ⟨b, j * sz + i, none⟩ u)
/-- a cell of it: it is there, it may be written, and the row stays a row -/
theorem Fl.at {E sz : Nat} {w : World} {oa : Option Addr} {cap n : Nat} {S : List Nat} {j : Nat} (h : Fl E sz w oa cap n S) (hj : j < n) (hz : 0 < sz) : AtF (fun w => Fl E sz w oa cap n S) w oa sz j S := by
  obtain ⟨xs, ho, rfl⟩ := h
  obtain ⟨b, c, e0, -⟩ := own_form ho (by omega)
  simp only [Value.slice.injEq] at e0
  obtain ⟨rfl, -, rfl⟩ := e0
  have hl : xs.length = n * sz := ho.1
  refine ⟨b, rfl, by simp [obk], fun i hi => ?_, fun i => World.ownsRow.frozenAt ho i, fun i u hi => ?_⟩
  · have h1 : j * sz + i < xs.length := by
      have : j * sz + sz ≤ n * sz := by rw [← Nat.succ_mul]; exact Nat.mul_le_mul_right _ hj
      omega
    exact ⟨xs[j * sz + i], own_cell ho (List.getElem?_eq_getElem h1)⟩
  · exact ⟨_, (World.ownsRow.stored ho (j * sz + i) u).1, rfl⟩
/-- in a greater tree -/
theorem AtF.up {φ ψ : World → Prop} {w : World} {oa : Option Addr} {sz j : Nat} {S T : List Nat} (h : AtF φ w oa sz j S) (hs : ∀ b ∈ S, b ∈ T) (hp : ∀ w', φ w' → Chg S w w' → ψ w') : AtF ψ w oa sz j T := by
  obtain ⟨b, rfl, hb, hc, hf, hp'⟩ := h
  exact ⟨b, rfl, hs b hb, hc, hf, fun i u hi => hp _ (hp' i u hi) ((Chg.setCell w ⟨b, j * sz + i, none⟩ u).mono fun k hk => by simp at hk; subst hk; exact hb)⟩
/-! ### weaker shapes of a row -/
theorem RowS.weak {α β : Type} {V : World → α → List Value → List Nat → Prop} {V' : World → β → List Value → List Nat → Prop} {w : World} (R : β → Prop) :
    ∀ {es : List α} {xs : List Value} {S : List Nat}, (∀ x ∈ es, ∀ v S, V w x v S → ∃ u S', S'.Sublist S ∧ V' w u v S' ∧ R u) → RowS V w es xs S → ∃ us S', us.length = es.length ∧ S'.Sublist S ∧ RowS V' w us xs S' ∧ ∀ u ∈ us, R u
  | [], xs, S, hV, h => ⟨[], [], rfl, by simp, by obtain ⟨rfl, rfl⟩ := h; exact ⟨rfl, rfl⟩, by simp⟩
  | e :: r, xs, S, hV, h => by
    obtain ⟨v, S1, xr, Sr, rfl, rfl, h1, h2⟩ := h
    obtain ⟨u, T1, s1, k1, r1⟩ := hV e (.head _) _ _ h1
    obtain ⟨us, T2, hl, s2, k2, r2⟩ := RowS.weak R (fun x hx => hV x (.tail _ hx)) h2
    exact ⟨u :: us, T1 ++ T2, by simp [hl], s1.append s2, ⟨v, T1, xr, T2, rfl, rfl, k1, k2⟩, fun x hx => (List.mem_cons.1 hx).elim (fun e => e ▸ r1) (r2 x)⟩
theorem RowT.weak {α β : Type} {V : World → α → List Value → List Nat → Prop} {V' : World → β → List Value → List Nat → Prop} {w : World} {E sz : Nat} (R : β → Prop) 
    {oa : Option Addr} {cap : Nat} {es : List α} {S : List Nat} (hV : ∀ x ∈ es, ∀ v S, V w x v S → ∃ u S', S'.Sublist S ∧ V' w u v S' ∧ R u) (h : RowT V E sz w oa cap es S) : ∃ us S', us.length = es.length ∧ S'.Sublist S ∧ RowT V' E sz w oa cap us S' ∧ ∀ u ∈ us, R u := by
  obtain ⟨xs, S', ho, rfl, hr⟩ := h
  obtain ⟨us, T, hl, s, k, r⟩ := RowS.weak R hV hr
  exact ⟨us, obk oa ++ T, hl, (List.Sublist.refl _).append s, ⟨xs, T, by rw [hl]; exact ho, rfl, k⟩, r⟩
theorem RowT.kept {α : Type} {V : World → α → List Value → List Nat → Prop} {w w' : World} {E sz : Nat} (hV : ∀ w w' x v S, V w x v S → (∀ b ∈ S, w'.heap[b]? = w.heap[b]?) → V w' x v S) {oa : Option Addr} {cap : Nat} {es : List α} {S : List Nat} (h : RowT V E sz w oa cap es S) (hk : ∀ b ∈ S, w'.heap[b]? = w.heap[b]?) : RowT V E sz w' oa cap es S := by
  obtain ⟨xs, S', ho, rfl, hr⟩ := h
  exact ⟨xs, S', owns_kept ho fun k hk' => hk k (by simp [hk']), rfl, RowS.kept hV hr fun b hb => hk b (by simp [hb])⟩
/-- where the lists of a tree lie, and how long they are -/
structure SmD where
  oe : Option Addr
  ne : Nat
  ce : Nat
  ob : Option Addr
  nb : Nat
  cb : Nat
structure ThD where
  od : Option Addr
  nd : Nat
  cd : Nat
  ob : Option Addr
  cb : Nat
  sms : List SmD
structure PgD where
  os : Option Addr
  ns : Nat
  cs : Nat
  ot : Option Addr
  ct : Nat
  ths : List ThD
section
variable {tE tS tD tT : Nat} {w w' : World}
abbrev lim : Nat := 1099511627776
theorem mem_ok {α : Type} {R : α → Prop} {l : List α} (h : ∀ (j : Nat) x, l[j]? = some x → R x) : ∀ x ∈ l, R x := fun x hx => by
  obtain ⟨j, hj⟩ := List.mem_iff_getElem?.1 hx
  exact h j x hj
theorem set_same {α : Type} {l : List α} {j : Nat} {e : α} (h : l[j]? = some e) : l.set j e = l := by
  obtain ⟨hj, rfl⟩ := List.getElem?_eq_some_iff.1 h
  simp
theorem len2 {A B : List Nat} (h : ∀ a ∈ A, ∀ b ∈ B, a ≠ b) : ∀ k ∈ B, k ∉ A := fun k hk hk' => h k hk' k hk rfl
/-! ### the whole tree -/
section
variable {D : PgD} {S : List Nat} {i j k : Nat} {d : ThD} {s : SmD}
end
/-! ### the same, of every world in which the tree has this shape: its blocks are where they were -/
section
variable {D : PgD} {S : List Nat} {i j k : Nat} {d : ThD} {s : SmD}
def AtB (φ : World → Prop) (b sz j : Nat) : Prop := ∀ w, φ w → (∀ i, i < sz → ∃ u, w.cell? ⟨b, j * sz + i, none⟩ = some u) ∧ (∀ i, w.frozen? ⟨b, i, none⟩ = false) ∧ ∀ i u, i < sz → φ (w.setCell ⟨b, j * sz + i, none⟩ u)
theorem AtB.of {φ : World → Prop} {oa : Option Addr} {sz : Nat} (hw : φ w) (h : ∀ w, φ w → AtF φ w oa sz j S) : ∃ b, oa = some ⟨b, 0, none⟩ ∧ b ∈ S ∧ AtB φ b sz j := by
  obtain ⟨b, rfl, hb, -⟩ := h w hw
  refine ⟨b, rfl, hb, fun w hw => ?_⟩
  obtain ⟨b', e, -, h1, h2, h3⟩ := h w hw
  simp only [Option.some.injEq, Addr.mk.injEq, and_true] at e
  subst e
  exact ⟨h1, h2, h3⟩
theorem AtB.atF {φ : World → Prop} {b sz j : Nat} (h : AtB φ b sz j) (hb : b ∈ S) : ∀ w, φ w → AtF φ w (some ⟨b, 0, none⟩) sz j S := fun w hw => ⟨b, rfl, hb, h w hw⟩
end
end
section
variable {P : Program}
theorem run_storeCells_inv {φ : World → Prop} {b off n : Nat} (hφ : ∀ w, φ w → (∀ j, j < n → ∃ u, w.cell? ⟨b, off + j, none⟩ = some u) ∧ (∀ i, w.frozen? ⟨b, i, none⟩ = false) ∧ ∀ j u, j < n → φ (w.setCell ⟨b, off + j, none⟩ u)) :
    ∀ (vs : List Value) (i : Nat) (w : World), φ w → i + vs.length ≤ n → (∀ v ∈ vs, v.oneCell' = true) → ∃ w', (storeCells ⟨b, off, none⟩ vs i).run P w = .ok () w' ∧ φ w' ∧ Chg [b] w w'
  | [], i, w, h, hl, h1 => ⟨w, by simp [storeCells, go_sem], h, Chg.refl _ _⟩
  | v :: vs, i, w, h, hl, h1 => by
    simp only [List.length_cons] at hl
    obtain ⟨hc, hf, hput⟩ := hφ w h
    obtain ⟨u, hc⟩ := hc i (by omega)
    have hf := hf (off + i)
    obtain ⟨w', hr, hh, hc'⟩ := run_storeCells_inv hφ vs (i + 1) _ (hput i v (by omega)) (by omega) (fun u hu => h1 u (.tail _ hu))
    refine ⟨w', ?_, hh, (Chg.setCell w ⟨b, off + i, none⟩ v).trans hc'⟩
    have hone : v.oneCell' = true := h1 v (.head _)
    have hst : (store ⟨b, off + i, none⟩ v).run P w = .ok () (w.setCell ⟨b, off + i, none⟩ v) := by
      cases v <;> first | (simp [Value.oneCell'] at hone; done) | simp [store, Sem.run, hc, hf]
    simp only [storeCells, Sem.run_bind, addr_add, hst, Result.andThen_ok]
    exact hr
variable {w0 w w' : World} {M : List Nat} {hs : List Res}
variable {n : Fr} {L : List Oper} {Q : Exit → Act → World → Prop} {kn : Kn} {N : Act → World → Prop}
variable {d ty : Nat} {pos : String} {aft : Array Edge} {g : Option (Nat × Bool)}
/-- many cells stored into a tree that is held: what is said of the tree stays while they are stored -/
theorem e_stF (st : St w0 M hs w) (i : Nat) {x y : Operand} {T b off j sz : Nat} {v : Value} {vs : List Value} {S : List Nat} {φ ψ : World → Prop} (hw : gd L kn g = some true) (hx : evO kn x = some (.pointer (some ⟨b, off, none⟩)))
    (hy : evO kn y = some v) (hv : v.cells.toList = vs) (h1 : allOne vs = true) (hsz : ∀ w, (Go.sizeOf T).run P w = .ok vs.length w) (hi : nth hs i = some (.tree S φ)) (hb : b ∈ S) (hm : b ∈ M ∨ w0.heap.size ≤ b)
    (hψ : ψ w) (hput : ∀ w, ψ w → AtF ψ w (some ⟨b, 0, none⟩) sz j S) (hoff : off = j * sz) (hle : vs.length ≤ sz) (hψl : Sx.Loc S ψ)
    (next : ∀ w', St w0 M (setNth hs i (.tree S ψ)) w' → vN n N kn w') : vS P n L Q (⟨none, .store T x y, ty, pos, aft, g⟩) N kn w := by
  subst hoff
  obtain ⟨w', hr, hh, hc9⟩ := run_storeCells_inv (P := P) (φ := ψ) (b := b) (off := j * sz) (n := sz) (fun w h => by
    obtain ⟨b', e, -, hc, hf, hp⟩ := hput w h
    simp only [Option.some.injEq, Addr.mk.injEq, and_true] at e
    subst e
    exact ⟨hc, hf, hp⟩) vs 0 w hψ (by omega) (allOne_spec h1)
  have hlt : ∀ k ∈ S, k < w.heap.size := (st.res hi).2.1
  refine e_do hw rfl (w' := w') (fun a ha => ?_) (next _ (st.swap hi hc9 (fun k hk => by simp at hk; subst hk; exact hb) (fun k hk => by simp at hk; subst hk; exact hm) (fun k hk => .inl hk) ⟨hh, fun k hk => Nat.lt_of_lt_of_le (hlt k hk) hc9.size, hψl⟩))
  simp only [execOp, ha.ev hx, ha.ev hy]
  have hsz' : v.cells.size = vs.length := by rw [← hv]; simp
  have key : (storeVar T ⟨b, j * sz, none⟩ v).run P w = .ok () w' := by
    simp only [storeVar, Sem.run_bind, hsz, Result.andThen_ok, hsz', ne_eq, not_true_eq_false, ↓reduceIte, hv, hr]
  simp only [Instr.storeAt, Instr.sureAddr, Sem.run_bind, Sem.run_pure, Result.andThen_ok, key]
end
end Sx


/- Rows of which the elements are given up one after the other: what is needed to write over whole trees of one's own. -/
namespace Sx
open Go Go.RowKit
section
variable {α : Type} {S : List Nat}
/-- an element that is still there, or any cells -/
def Opt (V : World → α → List Value → List Nat → Prop) (sz : Nat) (w : World) : Option α → List Value → List Nat → Prop
  | some e, v, S => V w e v S
  | none, v, S => v.length = sz
/-- the first 'j' given up -/
def gone (l : List α) (j : Nat) : List (Option α) := List.replicate (min j l.length) none ++ (l.drop j).map some
theorem gone_zero {l : List α} : gone l 0 = l.map some := by simp [gone]
theorem gone_len {l : List α} {j : Nat} : (gone l j).length = l.length := by simp [gone]; omega
theorem gone_get {l : List α} {j : Nat} {e : α} (h : l[j]? = some e) : (gone l j)[j]? = some (some e) := by
  obtain ⟨hj, rfl⟩ := List.getElem?_eq_some_iff.1 h
  rw [gone, List.getElem?_append_right (by simp; omega)]
  simp only [List.length_replicate, Nat.min_eq_left (by omega : j ≤ l.length), Nat.sub_self, List.getElem?_map, List.getElem?_drop, Nat.add_zero, h, Option.map_some]
theorem gone_step {l : List α} {j : Nat} (h : j < l.length) : (gone l j).set j none = gone l (j + 1) := by
  have e1 : l.drop j = l[j] :: l.drop (j + 1) := List.drop_eq_getElem_cons h
  rw [gone, gone, e1, List.map_cons, List.set_append_right _ _ (by simp; omega), List.length_replicate, Nat.min_eq_left (by omega : j ≤ l.length), Nat.sub_self, List.set_cons_zero, Nat.min_eq_left (by omega : j + 1 ≤ l.length), List.replicate_succ', List.append_assoc]
  rfl
theorem gone_none {l : List α} {j : Nat} (h : j < l.length) : (gone l (j + 1))[j]? = some none := by
  rw [← gone_step h, List.getElem?_set_self (by rw [gone_len]; exact h)]
variable {V : World → α → List Value → List Nat → Prop} {sz E : Nat} {w : World} {oa : Option Addr} {cap j : Nat} {es : List α} {e : α}
def RowG (V : World → α → List Value → List Nat → Prop) (E sz : Nat) (oa : Option Addr) (cap : Nat) (es : List α) (j : Nat) (S : List Nat) (w : World) : Prop := RowT (Opt V sz) E sz w oa cap (gone es j) S ∧ ∀ k ∈ S, k < w.heap.size
structure RowV (V : World → α → List Value → List Nat → Prop) (sz : Nat) : Prop where
  pos : 0 < sz
  len : ∀ w x v S, V w x v S → v.length = sz
  kept : ∀ w w' x v S, V w x v S → (∀ b ∈ S, w'.heap[b]? = w.heap[b]?) → V w' x v S
theorem RowV.opt (h : RowV V sz) : RowV (Opt V sz) sz := ⟨h.pos, fun w x v S hv => by
  cases x with
  | none => exact hv
  | some e => exact h.len _ _ _ _ hv, fun w w' x v S hv hk => by
  cases x with
  | none => exact hv
  | some e => exact h.kept _ _ _ _ _ hv hk⟩
theorem RowS.some : ∀ {es : List α} {xs : List Value} {S : List Nat}, RowS V w es xs S → RowS (Opt V sz) w (es.map Option.some) xs S
  | [], xs, S, h => h
  | e :: r, xs, S, h => by
    obtain ⟨v, S1, xr, Sr, rfl, rfl, h1, h2⟩ := h
    exact ⟨v, S1, xr, Sr, rfl, rfl, h1, RowS.some h2⟩
theorem RowG.init (h : RowT V E sz w oa cap es S) (hlt : ∀ k ∈ S, k < w.heap.size) : RowG V E sz oa cap es 0 S w := by
  obtain ⟨xs, S', ho, rfl, hr⟩ := h
  exact ⟨⟨xs, S', by rw [gone_len]; exact ho, rfl, by rw [gone_zero]; exact RowS.some hr⟩, hlt⟩
theorem lt_kept {a b : World} (h : ∀ k ∈ S, k < a.heap.size) (hk : ∀ k ∈ S, b.heap[k]? = a.heap[k]?) : ∀ k ∈ S, k < b.heap.size := fun k hks => by
  have h1 := hk k hks
  rw [Array.getElem?_eq_getElem (h k hks)] at h1
  exact (Array.getElem?_eq_some_iff.1 h1).1
theorem RowG.loc (hV : RowV V sz) : Sx.Loc S (RowG V E sz oa cap es j S) := loc_of fun a b h hk => ⟨RowT.kept (fun w w' x v S h hk => hV.opt.kept w w' x v S h hk) h.1 hk, lt_kept h.2 hk⟩
/-- the next element: it is still there; when it is given up the row is a row -/
theorem RowG.take (hV : RowV V sz) (h : RowG V E sz oa cap es j S w) (hn : S.Nodup) (hj : es[j]? = some e) :
    ∃ b v Sj, oa = some ⟨b, 0, none⟩ ∧ b ∈ S ∧ b ∉ Sj ∧ V w e v Sj ∧ Sj.Nodup ∧ (∀ k ∈ Sj, k ∈ S) ∧ (∀ i u, v[i]? = some u → w.cell? ⟨b, j * sz + i, none⟩ = some u) ∧ (∀ i, w.frozen? ⟨b, i, none⟩ = false) ∧
      (∀ w', Chg Sj w w' → RowG V E sz oa cap es (j + 1) S w') ∧ (∀ w', V w' e v Sj → Chg Sj w w' → RowG V E sz oa cap es j S w') := by
  obtain ⟨h, hlt⟩ := h
  obtain ⟨b, v, Sj, S1, S2, ho, hbl, hSe, hv, hcell, hfz, hset, hsub⟩ := RowT.focus (V := Opt V sz) hV.pos hV.opt.len hV.opt.kept h hn (gone_get hj)
  have hjl := (List.getElem?_eq_some_iff.1 hj).1
  subst hSe
  have hn0 := List.nodup_append.1 hn
  have hn1 := (List.nodup_append.1 (List.nodup_append.1 hn0.2.1).1).2.1
  refine ⟨b, v, Sj, ho, by simp, fun hb => hn0.2.2 b (by simp) b (by simp [hb]) rfl, hv, hn1, fun k hk => by simp [hk], hcell, hfz, fun w' hc => ?_, fun w' hv' hc => ?_⟩
  · have := hsub w' none (hV.len _ _ _ _ hv) hc.size (fun k hk hn => hc.block k hk hn) hlt
    rw [gone_step hjl] at this
    exact ⟨this, fun k hk => Nat.lt_of_lt_of_le (hlt k hk) hc.size⟩
  · have := hsub w' (some e) hv' hc.size (fun k hk hn => hc.block k hk hn) hlt
    rw [set_same (gone_get hj)] at this
    exact ⟨this, fun k hk => Nat.lt_of_lt_of_le (hlt k hk) hc.size⟩
/-- the place of an element that was given up -/
theorem RowG.at (hV : RowV V sz) (hn : S.Nodup) (hj : j < es.length) {b : Nat} (ho : oa = some ⟨b, 0, none⟩) : ∀ w, RowG V E sz oa cap es (j + 1) S w → AtF (RowG V E sz oa cap es (j + 1) S) w (some ⟨b, 0, none⟩) sz j S := fun w ⟨h, hlt⟩ => by
  obtain ⟨b', v, Sj, S1, S2, e1, hbl, rfl, hv, hcell, hfz, hset, -⟩ := RowT.focus (V := Opt V sz) hV.pos hV.opt.len hV.opt.kept h hn (gone_none hj)
  rw [ho] at e1
  simp only [Option.some.injEq, Addr.mk.injEq, and_true] at e1
  subst e1
  have hvl : v.length = sz := hv
  refine ⟨b, rfl, by simp, fun i hi => ⟨v[i]'(by omega), hcell i _ (List.getElem?_eq_getElem (by omega))⟩, hfz, fun i u hi => ?_⟩
  have := hset i u none hi (by show (v.set i u).length = sz; rw [List.length_set]; exact hvl)
  rw [set_same (gone_none hj)] at this
  exact ⟨this, fun k hk => Nat.lt_of_lt_of_le (hlt k hk) (Chg.setCell w ⟨b, j * sz + i, none⟩ u).size⟩
end
section
variable {tE tS tD tT : Nat} {w w' : World}
theorem exV : RowV (ExS tE) 6 := ⟨by omega, fun w x v S h => h.len, fun w w' x v S h hk => h.kept hk⟩
theorem smV : RowV (SmS tE tS) 7 := ⟨by omega, fun w x v S h => h.len, fun w w' x v S h hk => h.kept hk⟩
/-- a thread's cells, its local names flat -/
structure ThE where
  ol : Option Addr
  nl : Nat
  cl : Nat
  ob : Option Addr
  cb : Nat
  body : List Sm
def ThG (tE tS tD : Nat) (w : World) (d : ThE) (v : List Value) (S : List Nat) : Prop := ∃ (a : Int) (nm : List UInt8) (Sl Sb : List Nat),
  v = [str nm, .slice d.ol d.nl d.cl, .slice d.ob d.body.length d.cb, .int .i64 a] ∧ Fl tD 3 w d.ol d.cl d.nl Sl ∧ SmR tE tS w d.ob d.cb d.body Sb ∧ S = Sl ++ Sb
theorem thG : RowV (ThG tE tS tD) 4 := ⟨by omega, fun w x v S h => by obtain ⟨_, _, _, _, rfl, -⟩ := h; rfl, fun w w' x v S h hk => by
  obtain ⟨a, nm, Sl, Sb, rfl, h1, h2, rfl⟩ := h
  exact ⟨a, nm, Sl, Sb, rfl, h1.kept fun b hb => hk b (by simp [hb]), h2.kept fun b hb => hk b (by simp [hb]), rfl⟩⟩
def ThE.Ok (d : ThE) : Prop := d.nl ≤ lim ∧ OkSs d.body
theorem ThG.of {t : Th} (ok : OkD t.locals ∧ OkSs t.body) {v : List Value} {S : List Nat} (h : ThS tE tS tD w t v S) : ∃ d S', S'.Sublist S ∧ ThG tE tS tD w d v S' ∧ d.Ok := by
  obtain ⟨ol, cl, ob, cb, Sl, Sb, rfl, h1, h2, rfl⟩ := h
  obtain ⟨h1, rfl⟩ := h1
  exact ⟨⟨ol, _, cl, ob, cb, t.body⟩, _, List.Sublist.refl _, ⟨_, _, _, Sb, rfl, ⟨_, h1, rfl⟩, h2, rfl⟩, ok.1.1, ok.2⟩
/-- a statement taken out of its row: its lists, apart from each other; and what stands when all of them were written over -/
theorem sm_take {ob : Option Addr} {cb j : Nat} {ss : List Sm} {s : Sm} {S : List Nat} (h : RowG (SmS tE tS) tS 7 ob cb ss j S w) (hn : S.Nodup) (hj : ss[j]? = some s) :
    ∃ b oe ce o2 c2 ol cl Se Sb Sl, ob = some ⟨b, 0, none⟩ ∧ b ∈ S ∧ (∀ i u, ([.int .u8 s.k, str s.nm, str s.other, .slice oe s.e.length ce, .slice o2 s.body.length c2, .slice ol s.els.length cl, .int .i64 s.a] : List Value)[i]? = some u → ∀ w', Chg (Se ++ (Sb ++ Sl)) w w' → w'.cell? ⟨b, j * 7 + i, none⟩ = some u) ∧
      (∀ w', Chg (Sb ++ Sl) w w' → ExR tE w' oe ce s.e Se) ∧ SmR tE tS w o2 c2 s.body Sb ∧ (∀ w', Chg Sb w w' → SmR tE tS w' ol cl s.els Sl) ∧ Se.Nodup ∧ Sb.Nodup ∧ Sl.Nodup ∧ (∀ k ∈ Se ++ (Sb ++ Sl), k ∈ S) ∧
      (∀ w', Chg (Se ++ (Sb ++ Sl)) w w' → RowG (SmS tE tS) tS 7 ob cb ss (j + 1) S w') := by
  obtain ⟨b, v, Sj, ho, hb, hbn, hv, hnj, hsub, hcell, hfz, hput, -⟩ := RowG.take smV h hn hj
  obtain ⟨oe, ce, o2, c2, ol, cl, Se, Sb, Sl, rfl, h1, h2, h3, rfl⟩ := SmS_iff.1 hv
  obtain ⟨ne, n2, d1⟩ := List.nodup_append.1 hnj
  obtain ⟨nb, nl, d2⟩ := List.nodup_append.1 n2
  refine ⟨b, oe, ce, o2, c2, ol, cl, Se, Sb, Sl, ho, hb, fun i u hi w' hc => hc.cell (hcell i u hi) hbn, fun w' hc => h1.kept fun k hk => hc.block k (h1.lt k hk) fun hk' => d1 k hk k hk' rfl, h2, fun w' hc => h3.kept fun k hk => hc.block k (h3.lt k hk) fun hk' => d2 k hk' k hk rfl, ne, nb, nl, hsub, hput⟩
/-- a thread taken out of its row -/
theorem th_take {ot : Option Addr} {ct i : Nat} {ds : List ThE} {d : ThE} {S : List Nat} (h : RowG (ThG tE tS tD) tT 4 ot ct ds i S w) (hn : S.Nodup) (hi : ds[i]? = some d) :
    ∃ b, ot = some ⟨b, 0, none⟩ ∧ b ∈ S ∧ ∀ w, RowG (ThG tE tS tD) tT 4 ot ct ds i S w → (w.cell? ⟨b, i * 4 + 1, none⟩ = some (.slice d.ol d.nl d.cl) ∧ w.cell? ⟨b, i * 4 + 2, none⟩ = some (.slice d.ob d.body.length d.cb)) ∧
      (∀ j, j < d.nl → AtF (RowG (ThG tE tS tD) tT 4 ot ct ds i S) w d.ol 3 j S) ∧ ∃ Sb, SmR tE tS w d.ob d.cb d.body Sb ∧ Sb.Nodup ∧ (∀ k ∈ Sb, k ∈ S) ∧ ∀ w', Chg Sb w w' → RowG (ThG tE tS tD) tT 4 ot ct ds (i + 1) S w' := by
  obtain ⟨b, v, Sj, ho, hb, -⟩ := RowG.take thG h hn hi
  refine ⟨b, ho, hb, fun w h => ?_⟩
  obtain ⟨b', v, Sj, e1, -, hbn, hv, hnj, hsub, hcell, hfz, hput, hre⟩ := RowG.take thG h hn hi
  rw [ho] at e1
  simp only [Option.some.injEq, Addr.mk.injEq, and_true] at e1
  subst e1
  obtain ⟨a, nm, Sl, Sb, rfl, h1, h2, rfl⟩ := hv
  obtain ⟨nl, nb, d1⟩ := List.nodup_append.1 hnj
  refine ⟨⟨hcell 1 _ rfl, hcell 2 _ rfl⟩, fun j hj => ?_, Sb, h2, nb, fun k hk => hsub k (by simp [hk]), fun w' hc => hput w' (hc.mono fun k hk => by simp [hk])⟩
  exact (h1.at hj (by omega)).up (fun k hk => hsub k (by simp [hk])) fun w' h' hc => hre w' ⟨a, nm, Sl, Sb, rfl, h', h2.kept fun k hk => hc.block k (h2.lt k hk) (len2 d1 k hk), rfl⟩ (hc.mono fun k hk => by simp [hk])
/-- the lists of a tree, each in blocks of its own -/
theorem pg_parts {p : Pg} (ok : OkP p) {l : List Value} {S : List Nat} (h : PgS tE tS tD tT w p l S) (hn : S.Nodup) : ∃ os cs ol cl ot ct ds Ss Sl St, l = [.slice os p.shared.length cs, .slice ol p.locks.length cl, .slice ot (ds : List ThE).length ct] ∧ Fl tD 3 w os cs p.shared.length Ss ∧ Fl tD 3 w ol cl p.locks.length Sl ∧ RowG (ThG tE tS tD) tT 4 ot ct ds 0 St w ∧
    (∀ k ∈ Ss, k ∈ S) ∧ (∀ k ∈ Sl, k ∈ S) ∧ (∀ k ∈ St, k ∈ S) ∧ Ss.Nodup ∧ Sl.Nodup ∧ St.Nodup ∧ (∀ k ∈ Ss, k ∉ Sl) ∧ (∀ k ∈ Ss, k ∉ St) ∧ (∀ k ∈ Sl, k ∉ St) ∧ (∀ d ∈ ds, d.Ok) ∧ ds.length ≤ lim := by
  have hlt := PgS.lt h
  obtain ⟨os, cs, ol, cl, ot, ct, Ss, Sl, St, rfl, h1, h2, h3, rfl⟩ := h
  obtain ⟨ds, T, hl, s, k, r⟩ := RowT.weak ThE.Ok (fun x hx v S h => ThG.of (mem_ok (R := fun t => OkD t.locals ∧ OkSs t.body) (fun j t ht => ⟨(ok.2.2.2 j t ht).1, (ok.2.2.2 j t ht).2.1⟩) x hx) h) (thR_row.1 h3)
  obtain ⟨h1, rfl⟩ := h1
  obtain ⟨h2, rfl⟩ := h2
  obtain ⟨n1, n2, d1⟩ := List.nodup_append.1 hn
  obtain ⟨n3, n4, d2⟩ := List.nodup_append.1 n2
  exact ⟨os, cs, ol, cl, ot, ct, ds, _, _, T, by rw [hl], ⟨_, h1, rfl⟩, ⟨_, h2, rfl⟩, RowG.init k fun k hk => hlt k (by simp [s.subset hk]), fun k hk => by simp [hk], fun k hk => by simp [hk], fun k hk => by simp [s.subset hk], n1, n3, s.nodup n4, fun k hk hk' => d1 k hk k (by simp [hk']) rfl, fun k hk hk' => d1 k hk k (by simp [s.subset hk']) rfl, fun k hk hk' => d2 k hk k (s.subset hk') rfl, r, by rw [hl]; exact ok.2.2.1⟩
theorem Fl.loc {E sz : Nat} {oa : Option Addr} {cap n : Nat} {S : List Nat} : Sx.Loc S fun w => Fl E sz w oa cap n S := loc_of fun a b h hk => h.kept hk
/-- three trees that may be written over -/
theorem St.three {M S1 S2 S3 : List Nat} {φ1 φ2 φ3 : World → Prop} (h1 : φ1 w) (h2 : φ2 w) (h3 : φ3 w) (l1 : ∀ b ∈ S1, b < w.heap.size) (l2 : ∀ b ∈ S2, b < w.heap.size) (l3 : ∀ b ∈ S3, b < w.heap.size) (k1 : Sx.Loc S1 φ1) (k2 : Sx.Loc S2 φ2) (k3 : Sx.Loc S3 φ3)
    (d12 : ∀ b ∈ S1, b ∉ S2) (d13 : ∀ b ∈ S1, b ∉ S3) (d23 : ∀ b ∈ S2, b ∉ S3) : St w M [.tree S1 φ1, .tree S2 φ2, .tree S3 φ3] w :=
  ⟨Chg.refl _ _, List.pairwise_cons.2 ⟨fun x hx k hk hk' => by
    simp only [List.mem_cons, List.not_mem_nil, or_false] at hx
    rcases hx with rfl | rfl
    · exact d12 k hk hk'
    · exact d13 k hk hk', List.pairwise_cons.2 ⟨fun x hx k hk hk' => by
    simp only [List.mem_singleton] at hx
    subst hx
    exact d23 k hk hk', List.pairwise_singleton _ _⟩⟩, by
    intro r hr
    simp only [List.mem_cons, List.not_mem_nil, or_false] at hr
    rcases hr with rfl | rfl | rfl
    · exact ⟨h1, l1, k1⟩
    · exact ⟨h2, l2, k2⟩
    · exact ⟨h3, l3, k3⟩⟩
end
end Sx


/- How great a tree is, as Lean counts. -/
namespace Sx
abbrev szo {α : Type} [SizeOf α] (x : α) : Nat := SizeOf.sizeOf x
theorem ex_size {k op wd : Int} {nm : List UInt8} {kids : List Ex} {a : Int} : szo kids < szo (Ex.mk k op wd nm kids a) := by
  simp only [szo, Ex.mk.sizeOf_spec]; omega
theorem mem_size {α : Type} [SizeOf α] {l : List α} {j : Nat} {x : α} (h : l[j]? = some x) : szo x < szo l := List.sizeOf_lt_of_mem (List.mem_of_getElem? h)
theorem sm_size {k : Int} {nm other : List UInt8} {e : List Ex} {body els : List Sm} {a : Int} : szo body < szo (Sm.mk k nm other e body els a) ∧ szo els < szo (Sm.mk k nm other e body els a) := by
  simp only [szo, Sm.mk.sizeOf_spec]; omega
theorem szo_kids (e : Ex) : szo e.kids < szo e := by cases e; exact ex_size
end Sx


namespace Go.Proofs.YtggnfanphcaamaaGreatDoor
open Go.RowKit Sx LexS _root_.Go.Proofs.Tryz
abbrev ex0 : List Value := [.int .u8 0, .int .u8 0, .int .i64 0, str [], .slice none 0 0, .int .i64 0]
abbrev sm0 : List Value := [.int .u8 0, str [], str [], .slice none 0 0, .slice none 0 0, .slice none 0 0, .int .i64 0]
abbrev dc0 : List Value := [str [103, 111, 110, 101], .int .i64 0, .int .i64 0]
abbrev th0 : List Value := [str [], .slice none 0 0, .slice none 0 0, .int .i64 0]

set_option maxHeartbeats 1000000 in
theorem none_any : ∀ (n : Nat) (a : List Ex), szo a = n → OkEs a → ∀ (oa : Option Addr) (ca : Nat) (S : List Nat) (w : World), ExR 60 w oa ca a S → S.Nodup →
    Ret Tryz.prog 39 [.slice oa a.length ca] w fun v w' => v = .tuple #[] ∧ Chg S w w' := by
 intro n
 refine Nat.strongRecOn n fun n ih => ?_
 intro a hn hok oa ca S w hA hnd
 subst hn
 have hn := hok.1
 refine ret_of [_] func39 rfl ntmps39 rfl ?_
 have st := St.init w S
 clear st
 obtain ⟨w0, rfl⟩ : ∃ w0, w0 = w := ⟨_, rfl⟩
 have st := St.two (w := w0) (φ := RowG (ExS 60) 60 6 oa ca a 0 S) (ψ := fun _ => True) (E := []) (RowG.init (exR_row.1 hA) hA.lt) trivial hA.lt (by simp) (RowG.loc exV) (loc_of fun _ _ h _ => h) (by simp)
 have hSM : ∀ k ∈ S, k ∈ S ∨ w0.heap.size ≤ k := fun k hk => .inl hk
 refine sr ?_
 refine ym ?_
 refine vy (y_lensl rfl underlying54) ?_
 refine ym ?_
 refine et (vk3 0 4 5 (vc_block ?_))
 refine vc_loop (w0 := w0) (M := S) (fun (j : Nat) => [(0, .slice oa a.length ca), (4, .int .i64 (a.length : Int)), (5, .int .i64 (j : Int))]) (fun j => [.tree S (RowG (ExS 60) 60 6 oa ca a j S)]) (fun j _ => j ≤ a.length) (fun j => a.length - j) 0 ⟨rfl, rfl, rfl, trivial⟩ (st.dr) (by omega) ?_
 clear st
 rintro j w hj st
 refine sr ?_
 refine vy (y_lss rfl rfl) ?_
 refine et (vk4 0 4 5 6 (vc_seq ?_))
 refine vif ?_ ?_
 ·intro hc6
  try simp only [dn] at hc6
  obtain ⟨x, hx⟩ : ∃ x, a[j]? = some x := ⟨_, List.getElem?_eq_getElem (by omega)⟩
  have hz := mem_size hx
  have hkx := hok.2 j x hx
  have hjl : j < a.length := by omega
  have hz2 : szo x.kids < szo a := by have := szo_kids x; omega
  have stK := st
  obtain ⟨b, v, Sj, rfl, bS, hbn, hv, hnj, hsub, hcell, hfz, hput, -⟩ := RowG.take exV (st.res (i := 0) rfl).1 hnd hx
  obtain ⟨o, c, rfl, hk⟩ := ExS_iff.1 hv
  have st := stK
  clear stK
  refine kt (vk3 0 4 5 (vc_seq (vc_block (sr ?_))))
  refine ym ?_
  refine ya ?_
  refine et (vk4 0 2 4 5 (sr ?_))
  iterate 2 refine ym ?_
  refine vy (y_ia0 (k := j) rfl rfl underlying54 sizeOf60 rfl (by omega)) ?_
  refine vy (y_fa (k := 4) rfl underlying60 rfl rfl sizeOf54 rfl) ?_
  refine vy (y_ldc rfl isAgg54 (hcell 4 _ rfl)) ?_
  refine vc_e (e_call [_] rfl rfl call39 rfl (ih _ hz2 x.kids rfl hkx.kids _ _ _ _ hk hnj) ?_)
  rintro _ w ⟨rfl, cw⟩
  replace st := St.withinI st (i := 0) (RowG (ExS 60) 60 6 (some ⟨b, 0, none⟩) ca a (j + 1) S) rfl cw hsub hSM (hput _ cw) (RowG.loc exV)
  dsimp only [setNth] at st
  refine et (vk4 0 2 4 5 (vc_region ?_))
  iterate 2 refine ym ?_
  refine vy (y_bld (.agg ex0.toArray) [] rfl (fun w => by simp [Instr.build, go_sem])) ?_
  refine vy (y_ia0 (k := j) rfl rfl underlying54 sizeOf60 rfl (by omega)) ?_
  refine vc_e (e_stF st 0 (ψ := RowG (ExS 60) 60 6 (some ⟨b, 0, none⟩) ca a (j + 1) S) (vs := ex0) (j := j) (sz := 6) rfl rfl rfl rfl rfl sizeOf60 rfl bS (hSM _ bS) (st.res (i := 0) rfl).1 (RowG.at exV hnd hjl rfl) rfl (by decide) (RowG.loc exV) ?_)
  intro w st; dsimp only [setNth] at st
  refine vc_end (vq_block (vq_then (vk3 0 4 5 (vc_region ?_))))
  refine vy (y_add rfl rfl (by omega : _ = ((j + 1 : Nat) : Int)) (by omega) (by omega)) ?_
  refine ym ?_
  refine vc_end ?_
  refine vq_again (j + 1)  ⟨rfl, rfl, rfl, trivial⟩ (st.dr) ?_ ?_
  ·(show j + 1 ≤ a.length; omega)
  omega
 intro hc6
 try simp only [dn] at hc6
 refine vc_exit (vq_then_exit (vq_then_exit (vq_block_exit ?_)))
 refine vq_ret0 (.inr rfl) results39 ?_
 refine ⟨_, rfl, ?_⟩
 exact ⟨rfl, st.chg⟩
set_option maxHeartbeats 1000000 in
theorem blanks_any : ∀ (n : Nat) (a : List Sm), szo a = n → OkSs a → ∀ (oa : Option Addr) (ca : Nat) (S : List Nat) (w : World), SmR 60 56 w oa ca a S → S.Nodup →
    Ret Tryz.prog 21 [.slice oa a.length ca] w fun v w' => v = .tuple #[] ∧ Chg S w w' := by
 intro n
 refine Nat.strongRecOn n fun n ih => ?_
 intro a hn hok oa ca S w hA hnd
 subst hn
 have hn := hok.1
 refine ret_of [_] func21 rfl ntmps21 rfl ?_
 have st := St.init w S
 clear st
 obtain ⟨w0, rfl⟩ : ∃ w0, w0 = w := ⟨_, rfl⟩
 have st := St.two (w := w0) (φ := RowG (SmS 60 56) 56 7 oa ca a 0 S) (ψ := fun _ => True) (E := []) (RowG.init (smR_row.1 hA) hA.lt) trivial hA.lt (by simp) (RowG.loc smV) (loc_of fun _ _ h _ => h) (by simp)
 have hSM : ∀ k ∈ S, k ∈ S ∨ w0.heap.size ≤ k := fun k hk => .inl hk
 refine sr ?_
 refine ym ?_
 refine vy (y_lensl rfl underlying48) ?_
 refine ym ?_
 refine et (vk3 0 4 5 (vc_block ?_))
 refine vc_loop (w0 := w0) (M := S) (fun (j : Nat) => [(0, .slice oa a.length ca), (4, .int .i64 (a.length : Int)), (5, .int .i64 (j : Int))]) (fun j => [.tree S (RowG (SmS 60 56) 56 7 oa ca a j S)]) (fun j _ => j ≤ a.length) (fun j => a.length - j) 0 ⟨rfl, rfl, rfl, trivial⟩ (st.dr) (by omega) ?_
 clear st
 rintro j w hj st
 refine sr ?_
 refine vy (y_lss rfl rfl) ?_
 refine et (vk4 0 4 5 6 (vc_seq ?_))
 refine vif ?_ ?_
 ·intro hc6
  try simp only [dn] at hc6
  obtain ⟨x, hx⟩ : ∃ x, a[j]? = some x := ⟨_, List.getElem?_eq_getElem (by omega)⟩
  have hz := mem_size hx
  have hkx := hok.2 j x hx
  have hjl : j < a.length := by omega
  have hB2 : szo x.body < szo a := by
   have : szo x.body < szo x := by cases x; exact sm_size.1
   omega
  have hL2 : szo x.els < szo a := by
   have : szo x.els < szo x := by cases x; exact sm_size.2
   omega
  have stK := st
  obtain ⟨b, oe, ce, o2, c2, ol, cl, Se, Sb, Sl, rfl, bS, hcell, h1, h2, h3, ne, nb, nl, hsub, hput⟩ := sm_take (st.res (i := 0) rfl).1 hnd hx
  obtain ⟨w1, rfl⟩ : ∃ w1, w1 = w := ⟨_, rfl⟩
  have st := stK
  clear stK
  refine kt (vk3 0 4 5 (vc_seq (vc_block (sr ?_))))
  refine ym ?_
  refine ya ?_
  refine et (vk4 0 2 4 5 (sr ?_))
  iterate 2 refine ym ?_
  refine vy (y_ia0 (k := j) rfl rfl underlying48 sizeOf56 rfl (by omega)) ?_
  refine vy (y_fa (k := 4) rfl underlying56 rfl rfl sizeOf48 rfl) ?_
  refine vy (y_ldc rfl isAgg48 (hcell 4 _ rfl _ (Chg.refl _ _))) ?_
  refine vc_e (e_call [_] rfl rfl call21 rfl (ih _ hB2 x.body rfl hkx.body _ _ _ _ h2 nb) ?_)
  rintro _ w ⟨rfl, cw⟩
  have c1 := cw
  have c1w : Chg (Se ++ (Sb ++ Sl)) w1 w := c1.mono fun k hk => by simp [hk]
  replace st := St.withinI st (i := 0) (RowG (SmS 60 56) 56 7 (some ⟨b, 0, none⟩) ca a (j + 1) S) rfl cw (fun k hk => hsub k (by simp [hk])) hSM (hput _ c1w) (RowG.loc smV)
  dsimp only [setNth] at st
  refine et (vk4 0 2 4 5 (sr ?_))
  iterate 2 refine ym ?_
  refine vy (y_ia0 (k := j) rfl rfl underlying48 sizeOf56 rfl (by omega)) ?_
  refine vy (y_fa (k := 5) rfl underlying56 rfl rfl sizeOf48 rfl) ?_
  refine vy (y_ldc rfl isAgg48 (hcell 5 _ rfl _ c1w)) ?_
  refine vc_e (e_call [_] rfl rfl call21 rfl (ih _ hL2 x.els rfl hkx.els _ _ _ _ (h3 _ c1) nl) ?_)
  rintro _ w ⟨rfl, cw⟩
  have c2 : Chg (Sb ++ Sl) w1 w := (c1.mono fun k hk => by simp [hk]).trans (cw.mono fun k hk => by simp [hk])
  have c2w : Chg (Se ++ (Sb ++ Sl)) w1 w := c2.mono fun k hk => by simp at hk; simp [hk]
  replace st := St.withinI st (i := 0) (RowG (SmS 60 56) 56 7 (some ⟨b, 0, none⟩) ca a (j + 1) S) rfl cw (fun k hk => hsub k (by simp [hk])) hSM (hput _ c2w) (RowG.loc smV)
  dsimp only [setNth] at st
  refine et (vk4 0 2 4 5 (sr ?_))
  iterate 2 refine ym ?_
  refine vy (y_ia0 (k := j) rfl rfl underlying48 sizeOf56 rfl (by omega)) ?_
  refine vy (y_fa (k := 3) rfl underlying56 rfl rfl sizeOf54 rfl) ?_
  refine vy (y_ldc rfl isAgg54 (hcell 3 _ rfl _ c2w)) ?_
  refine vc_e (e_call [_] rfl rfl call39 rfl (none_any _ x.e rfl hkx.e _ _ _ _ (h1 _ c2) ne) ?_)
  rintro _ w ⟨rfl, cw⟩
  have c3w : Chg (Se ++ (Sb ++ Sl)) w1 w := c2w.trans (cw.mono fun k hk => by simp [hk])
  replace st := St.withinI st (i := 0) (RowG (SmS 60 56) 56 7 (some ⟨b, 0, none⟩) ca a (j + 1) S) rfl cw (fun k hk => hsub k (by simp [hk])) hSM (hput _ c3w) (RowG.loc smV)
  dsimp only [setNth] at st
  refine et (vk4 0 2 4 5 (vc_region ?_))
  iterate 2 refine ym ?_
  refine vy (y_bld (.agg sm0.toArray) [] rfl (fun w => by simp [Instr.build, go_sem])) ?_
  refine vy (y_ia0 (k := j) rfl rfl underlying48 sizeOf56 rfl (by omega)) ?_
  refine vc_e (e_stF st 0 (ψ := RowG (SmS 60 56) 56 7 (some ⟨b, 0, none⟩) ca a (j + 1) S) (vs := sm0) (j := j) (sz := 7) rfl rfl rfl rfl rfl sizeOf56 rfl bS (hSM _ bS) (st.res (i := 0) rfl).1 (RowG.at smV hnd hjl rfl) rfl (by decide) (RowG.loc smV) ?_)
  intro w st; dsimp only [setNth] at st
  refine vc_end (vq_block (vq_then (vk3 0 4 5 (vc_region ?_))))
  refine vy (y_add rfl rfl (by omega : _ = ((j + 1 : Nat) : Int)) (by omega) (by omega)) ?_
  refine ym ?_
  refine vc_end ?_
  refine vq_again (j + 1)  ⟨rfl, rfl, rfl, trivial⟩ (st.dr) ?_ ?_
  ·(show j + 1 ≤ a.length; omega)
  omega
 intro hc6
 try simp only [dn] at hc6
 refine vc_exit (vq_then_exit (vq_then_exit (vq_block_exit ?_)))
 refine vq_ret0 (.inr rfl) results21 ?_
 refine ⟨_, rfl, ?_⟩
 exact ⟨rfl, st.chg⟩
set_option maxHeartbeats 2000000 in
theorem blankP_any (p : Pg) (hok : OkP p) (l : List Value) (S : List Nat) (w : World) (h : PgQ w p l S) (hn : S.Nodup) :
    Ret Tryz.prog 10 [.agg l.toArray] w fun v w' => v = .tuple #[] ∧ Chg S w w' := by
 refine ret_of [_] func10 rfl ntmps10 rfl ?_
 have st := St.init w S
 clear st
 obtain ⟨w0, rfl⟩ : ∃ w0, w0 = w := ⟨_, rfl⟩
 have hs := hok.1.1
 have hl := hok.2.1.1
 obtain ⟨os, cs, ol, cl, ot, ct, ds, Ss, Sl, St_, rfl, f1, f2, f3, i1, i2, i3, n1, n2, n3, d12, d13, d23, hds, hdl⟩ := pg_parts hok h hn
 have st := St.three (w := w0) (M := S) (φ1 := fun w => Fl 52 3 w os cs p.shared.length Ss) (φ2 := fun w => Fl 52 3 w ol cl p.locks.length Sl) f1 f2 f3 f1.lt f2.lt f3.2 Fl.loc Fl.loc (RowG.loc thG) d12 d13 d23
 have m1 : ∀ k ∈ Ss, k ∈ S ∨ w0.heap.size ≤ k := fun k hk => .inl (i1 k hk)
 have m2 : ∀ k ∈ Sl, k ∈ S ∨ w0.heap.size ≤ k := fun k hk => .inl (i2 k hk)
 have m3 : ∀ k ∈ St_, k ∈ S ∨ w0.heap.size ≤ k := fun k hk => .inl (i3 k hk)
 simp only [lim] at hdl
 try dsimp only at st
 refine sr ?_
 refine vc_e (e_bx (l := [_, _, _]) st rfl rfl rfl rfl ?_)
 intro b1 w hb1 st
 refine et (vk1 1 (vc_seq (sr ?_)))
 refine vy (y_fa0 rfl underlying25 rfl rfl sizeOf22 rfl) ?_
 refine yl st 0 isAgg22 ?_
 refine vy (y_lensl rfl underlying22) ?_
 refine ym ?_
 refine et (vk3 1 8 9 (vc_block ?_))
 refine vc_loop (w0 := w0) (M := S) (fun (j : Nat) => [(1, .pointer (some ⟨b1, 0, none⟩)), (8, .int .i64 (p.shared.length : Int)), (9, .int .i64 (j : Int))]) (fun j => [.blk b1 (.cells [.slice os p.shared.length cs, .slice ol p.locks.length cl, .slice ot ds.length ct].toArray 25 (0, 0)), .tree Ss (fun w => Fl 52 3 w os cs p.shared.length Ss), .tree Sl (fun w => Fl 52 3 w ol cl p.locks.length Sl), .tree St_ (RowG (ThG 60 56 52) 50 4 ot ct ds 0 St_)]) (fun j _ => j ≤ p.shared.length) (fun j => p.shared.length - j) 0 ⟨rfl, rfl, rfl, trivial⟩ (st.dr) (by omega) ?_
 clear st
 rintro j w hj st
 refine sr ?_
 refine vy (y_lss rfl rfl) ?_
 refine et (vk4 1 8 9 10 (vc_seq ?_))
 refine vif ?_ ?_
 ·intro hc10
  try simp only [dn] at hc10
  have stK := st
  obtain ⟨bs, rfl, bsS, hAs⟩ := (AtB.of (S := Ss) (φ := fun w => Fl 52 3 w os cs p.shared.length Ss) (st.res (i := 1) rfl).1 fun w h => h.at (j := j) (by omega) (by omega))
  have st := stK
  clear stK
  refine kt (vk3 1 8 9 (vc_seq (vc_block (sr ?_))))
  refine ym ?_
  refine ya ?_
  refine et (vk4 1 2 8 9 (vc_region ?_))
  refine vy (y_fa0 rfl underlying25 rfl rfl sizeOf22 rfl) ?_
  refine yl st 0 isAgg22 ?_
  refine ym ?_
  refine vy (y_bld (.agg dc0.toArray) [(0, _)] rfl (fun w => by simp [Instr.build, go_sem])) ?_
  refine vy (y_ia0 (k := j) rfl rfl underlying22 sizeOf52 rfl (by omega)) ?_
  refine vc_e (e_stF st 1 (ψ := (fun w => Fl 52 3 w (some ⟨bs, 0, none⟩) cs p.shared.length Ss)) (vs := dc0) (j := j) (sz := 3) rfl rfl rfl rfl rfl sizeOf52 rfl bsS (m1 _ bsS) (st.res (i := 1) rfl).1 (hAs.atF bsS) rfl (by decide) Fl.loc ?_)
  intro w st; dsimp only [setNth] at st
  refine vc_end (vq_block (vq_then (vk3 1 8 9 (vc_region ?_))))
  refine vy (y_add rfl rfl (by omega : _ = ((j + 1 : Nat) : Int)) (by omega) (by omega)) ?_
  refine ym ?_
  refine vc_end ?_
  refine vq_again (j + 1)  ⟨rfl, rfl, rfl, trivial⟩ (st.dr) ?_ ?_
  ·(show j + 1 ≤ p.shared.length; omega)
  omega
 intro hc10
 try simp only [dn] at hc10
 refine vc_exit (vq_then_exit (vq_then_exit (vq_block_exit (vq_then (vk1 1 (vc_seq (sr ?_)))))))
 refine yfz 1 underlying25 sizeOf22 ?_
 refine yl st 0 isAgg22 ?_
 refine vy (y_lensl rfl underlying22) ?_
 refine ym ?_
 refine et (vk3 1 20 21 (vc_block ?_))
 refine vc_loop (w0 := w0) (M := S) (fun (j : Nat) => [(1, .pointer (some ⟨b1, 0, none⟩)), (20, .int .i64 (p.locks.length : Int)), (21, .int .i64 (j : Int))]) (fun j => [.blk b1 (.cells [.slice os p.shared.length cs, .slice ol p.locks.length cl, .slice ot ds.length ct].toArray 25 (0, 0)), .tree Ss (fun w => Fl 52 3 w os cs p.shared.length Ss), .tree Sl (fun w => Fl 52 3 w ol cl p.locks.length Sl), .tree St_ (RowG (ThG 60 56 52) 50 4 ot ct ds 0 St_)]) (fun j _ => j ≤ p.locks.length) (fun j => p.locks.length - j) 0 ⟨rfl, rfl, rfl, trivial⟩ (st.dr) (by omega) ?_
 clear st
 rintro j w hj st
 refine sr ?_
 refine vy (y_lss rfl rfl) ?_
 refine et (vk4 1 20 21 22 (vc_seq ?_))
 refine vif ?_ ?_
 ·intro hc22
  try simp only [dn] at hc22
  have stK := st
  obtain ⟨bl, rfl, blS, hAl⟩ := (AtB.of (S := Sl) (φ := fun w => Fl 52 3 w ol cl p.locks.length Sl) (st.res (i := 2) rfl).1 fun w h => h.at (j := j) (by omega) (by omega))
  have st := stK
  clear stK
  refine kt (vk3 1 20 21 (vc_seq (vc_block (sr ?_))))
  refine ym ?_
  refine ya ?_
  refine et (vk4 1 3 20 21 (vc_region ?_))
  refine yfz 1 underlying25 sizeOf22 ?_
  refine yl st 0 isAgg22 ?_
  refine ym ?_
  refine vy (y_bld (.agg dc0.toArray) [(0, _)] rfl (fun w => by simp [Instr.build, go_sem])) ?_
  refine vy (y_ia0 (k := j) rfl rfl underlying22 sizeOf52 rfl (by omega)) ?_
  refine vc_e (e_stF st 2 (ψ := (fun w => Fl 52 3 w (some ⟨bl, 0, none⟩) cl p.locks.length Sl)) (vs := dc0) (j := j) (sz := 3) rfl rfl rfl rfl rfl sizeOf52 rfl blS (m2 _ blS) (st.res (i := 2) rfl).1 (hAl.atF blS) rfl (by decide) Fl.loc ?_)
  intro w st; dsimp only [setNth] at st
  refine vc_end (vq_block (vq_then (vk3 1 20 21 (vc_region ?_))))
  refine vy (y_add rfl rfl (by omega : _ = ((j + 1 : Nat) : Int)) (by omega) (by omega)) ?_
  refine ym ?_
  refine vc_end ?_
  refine vq_again (j + 1)  ⟨rfl, rfl, rfl, trivial⟩ (st.dr) ?_ ?_
  ·(show j + 1 ≤ p.locks.length; omega)
  omega
 intro hc22
 try simp only [dn] at hc22
 refine vc_exit (vq_then_exit (vq_then_exit (vq_block_exit (vq_then (vk1 1 (sr ?_))))))
 refine yfz 2 underlying25 sizeOf23 ?_
 refine yl st 0 isAgg23 ?_
 refine vy (y_lensl rfl underlying23) ?_
 refine ym ?_
 refine et (vk3 1 32 33 (vc_block ?_))
 refine vc_loop (w0 := w0) (M := S) (fun (i : Nat) => [(1, .pointer (some ⟨b1, 0, none⟩)), (32, .int .i64 (ds.length : Int)), (33, .int .i64 (i : Int))]) (fun i => [.blk b1 (.cells [.slice os p.shared.length cs, .slice ol p.locks.length cl, .slice ot ds.length ct].toArray 25 (0, 0)), .tree Ss (fun w => Fl 52 3 w os cs p.shared.length Ss), .tree Sl (fun w => Fl 52 3 w ol cl p.locks.length Sl), .tree St_ (RowG (ThG 60 56 52) 50 4 ot ct ds i St_)]) (fun i _ => i ≤ ds.length) (fun i => ds.length - i) 0 ⟨rfl, rfl, rfl, trivial⟩ (st.dr) (by omega) ?_
 clear st
 rintro i w hi st
 refine sr ?_
 refine vy (y_lss rfl rfl) ?_
 refine et (vk4 1 32 33 34 (vc_seq ?_))
 refine vif ?_ ?_
 ·intro hc34
  try simp only [dn] at hc34
  obtain ⟨⟨od, nd, cd, ob, cb, body⟩, hx⟩ : ∃ x, ds[i]? = some x := ⟨_, List.getElem?_eq_getElem (by omega)⟩
  have hil : i < ds.length := by omega
  obtain ⟨hnd, hob⟩ := hds _ (List.mem_of_getElem? hx)
  dsimp only at hnd hob
  simp only [lim] at hnd
  have stK := st
  obtain ⟨bt, rfl, btS, hT⟩ := th_take (st.res (i := 3) rfl).1 n3 hx
  dsimp only at hT
  have st := stK
  clear stK
  refine kt (vk3 1 32 33 (vc_seq (vc_block (sr ?_))))
  refine ym ?_
  refine ya ?_
  refine et (vk4 1 4 32 33 (vc_seq (sr ?_)))
  refine yfz 2 underlying25 sizeOf23 ?_
  refine yl st 0 isAgg23 ?_
  refine ym ?_
  refine vy (y_ia0 (k := i) rfl rfl underlying23 sizeOf50 rfl (by omega)) ?_
  refine vy (y_fa (k := 1) rfl underlying50 rfl rfl sizeOf22 rfl) ?_
  refine vy (y_ldc rfl isAgg22 (hT _ (st.res (i := 3) rfl).1).1.1) ?_
  refine vy (y_lensl rfl underlying22) ?_
  refine ym ?_
  refine et (vk6 1 4 32 33 42 43 (vc_block ?_))
  refine vc_loop (w0 := w0) (M := S) (fun (j : Nat) => [(1, .pointer (some ⟨b1, 0, none⟩)), (4, .int .i64 (i : Int)), (32, .int .i64 (ds.length : Int)), (33, .int .i64 (i : Int)), (42, .int .i64 (nd : Int)), (43, .int .i64 (j : Int))]) (fun j => [.blk b1 (.cells [.slice os p.shared.length cs, .slice ol p.locks.length cl, .slice (some ⟨bt, 0, none⟩) ds.length ct].toArray 25 (0, 0)), .tree Ss (fun w => Fl 52 3 w os cs p.shared.length Ss), .tree Sl (fun w => Fl 52 3 w ol cl p.locks.length Sl), .tree St_ (RowG (ThG 60 56 52) 50 4 (some ⟨bt, 0, none⟩) ct ds i St_)]) (fun j _ => j ≤ nd) (fun j => nd - j) 0 ⟨rfl, rfl, rfl, rfl, rfl, rfl, trivial⟩ (st.dr) (by omega) ?_
  clear st
  rintro j w hj st
  refine sr ?_
  refine vy (y_lss rfl rfl) ?_
  refine et (vk7 1 4 32 33 42 43 44 (vc_seq ?_))
  refine vif ?_ ?_
  ·intro hc44
   try simp only [dn] at hc44
   have stK := st
   obtain ⟨bd, rfl, bdS, hAd⟩ := AtB.of (S := St_) (φ := RowG (ThG 60 56 52) 50 4 (some ⟨bt, 0, none⟩) ct ds i St_) (st.res (i := 3) rfl).1 fun w h => (hT w h).2.1 j (by omega)
   have st := stK
   clear stK
   refine kt (vk6 1 4 32 33 42 43 (vc_seq (vc_block (sr ?_))))
   refine ym ?_
   refine ya ?_
   refine et (vk7 1 4 5 32 33 42 43 (vc_region ?_))
   refine yfz 2 underlying25 sizeOf23 ?_
   refine yl st 0 isAgg23 ?_
   refine ym ?_
   refine vy (y_ia0 (k := i) rfl rfl underlying23 sizeOf50 rfl (by omega)) ?_
   refine vy (y_fa (k := 1) rfl underlying50 rfl rfl sizeOf22 rfl) ?_
   refine vy (y_ldc rfl isAgg22 (hT _ (st.res (i := 3) rfl).1).1.1) ?_
   refine ym ?_
   refine vy (y_bld (.agg dc0.toArray) [(0, _)] rfl (fun w => by simp [Instr.build, go_sem])) ?_
   refine vy (y_ia0 (k := j) rfl rfl underlying22 sizeOf52 rfl (by omega)) ?_
   refine vc_e (e_stF st 3 (ψ := RowG (ThG 60 56 52) 50 4 (some ⟨bt, 0, none⟩) ct ds i St_) (vs := dc0) (j := j) (sz := 3) rfl rfl rfl rfl rfl sizeOf52 rfl bdS (m3 _ bdS) (st.res (i := 3) rfl).1 (hAd.atF bdS) rfl (by decide) (RowG.loc thG) ?_)
   intro w st; dsimp only [setNth] at st
   refine vc_end (vq_block (vq_then (vk6 1 4 32 33 42 43 (vc_region ?_))))
   refine vy (y_add rfl rfl (by omega : _ = ((j + 1 : Nat) : Int)) (by omega) (by omega)) ?_
   refine ym ?_
   refine vc_end ?_
   refine vq_again (j + 1)  ⟨rfl, rfl, rfl, rfl, rfl, rfl, trivial⟩ (st.dr) ?_ ?_
   ·(show j + 1 ≤ nd; omega)
   omega
  intro hc44
  try simp only [dn] at hc44
  refine vc_exit (vq_then_exit (vq_then_exit (vq_block_exit (vq_then (vk4 1 4 32 33 (sr ?_))))))
  refine yfz 2 underlying25 sizeOf23 ?_
  refine yl st 0 isAgg23 ?_
  refine ym ?_
  refine vy (y_ia0 (k := i) rfl rfl underlying23 sizeOf50 rfl (by omega)) ?_
  refine vy (y_fa (k := 2) rfl underlying50 rfl rfl sizeOf48 rfl) ?_
  refine vy (y_ldc rfl isAgg48 (hT _ (st.res (i := 3) rfl).1).1.2) ?_
  obtain ⟨Sb, hb, nb, hsb, hput⟩ := (hT _ (st.res (i := 3) rfl).1).2.2
  refine vc_e (e_call [_] rfl rfl call21 rfl (blanks_any _ body rfl hob _ _ _ _ hb nb) ?_)
  rintro _ w ⟨rfl, cw⟩
  replace st := St.withinI st (i := 3) (RowG (ThG 60 56 52) 50 4 (some ⟨bt, 0, none⟩) ct ds (i + 1) St_) rfl cw hsb m3 (hput _ cw) (RowG.loc thG)
  dsimp only [setNth] at st
  refine et (vk4 1 4 32 33 (vc_region ?_))
  refine yfz 2 underlying25 sizeOf23 ?_
  refine yl st 0 isAgg23 ?_
  refine ym ?_
  refine vy (y_bld (.agg th0.toArray) [] rfl (fun w => by simp [Instr.build, go_sem])) ?_
  refine vy (y_ia0 (k := i) rfl rfl underlying23 sizeOf50 rfl (by omega)) ?_
  refine vc_e (e_stF st 3 (ψ := RowG (ThG 60 56 52) 50 4 (some ⟨bt, 0, none⟩) ct ds (i + 1) St_) (vs := th0) (j := i) (sz := 4) rfl rfl rfl rfl rfl sizeOf50 rfl btS (m3 _ btS) (st.res (i := 3) rfl).1 (RowG.at thG n3 hil rfl) rfl (by decide) (RowG.loc thG) ?_)
  intro w st; dsimp only [setNth] at st
  refine vc_end (vq_block (vq_then (vk3 1 32 33 (vc_region ?_))))
  refine vy (y_add rfl rfl (by omega : _ = ((i + 1 : Nat) : Int)) (by omega) (by omega)) ?_
  refine ym ?_
  refine vc_end ?_
  refine vq_again (i + 1)  ⟨rfl, rfl, rfl, trivial⟩ (st.dr) ?_ ?_
  ·(show i + 1 ≤ ds.length; omega)
  omega
 intro hc34
 try simp only [dn] at hc34
 refine vc_exit (vq_then_exit (vq_then_exit (vq_block_exit ?_)))
 refine vq_ret0 (.inr rfl) results10 ?_
 refine ⟨_, rfl, ?_⟩
 exact ⟨rfl, st.chg⟩
end Go.Proofs.YtggnfanphcaamaaGreatDoor

