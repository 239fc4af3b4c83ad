/- A part of the proof: contracts of functions and plain laws; each theorem says its own conditions. -/
import Derived.Test.YtnmhlpnapgojjaaGreatDoorTopReadK2
import Derived.Test.YtnmhlpnapgojjaaGreatDoorTopReadK9
import Derived.Test.YtnmhlpnapgojjaaGreatDoorTopReadK1
import Derived.Test.YtnmhlpnapgojjaaGreatDoorTopReadK3
set_option linter.unusedVariables false
set_option linter.unusedSimpArgs false
namespace Go.Proofs.YtnmhlpnapgojjaaGreatDoor.Pq
open Go.RowKit Sx LexS ParS _root_.Go.Proofs.Tryz
theorem Tryz.info63 : Tryz.prog.info? 63 = some Tryz.t63 := by kernel_rfl

theorem pname_any (c : PCtx) (hR : c.R = 75) (r : List Tok) (hr : r <:+ c.ts) (w : World) (hC : PCok c w) (hP : PAt c r w) : RetP Tryz.prog 146 [.pointer (some ⟨c.pb, 0, none⟩)] w
    (PRes c r (nameP c.e r) [c.pb] w fun t v _ => v = .agg (tkL t).toArray) (PErr c (nameP c.e r) [c.pb] w) := by
 refine retp_of [_] func146 rfl ntmps146 rfl ?_
 obtain ⟨w0, rfl⟩ : ∃ w0, w0 = w := ⟨_, rfl⟩
 have hP' := hP
 dsimp only [PAt, pcell] at hP
 have st := St.of1 [c.pb] hP
 have h20 := hC.len
 have hl := suf_len hr
 refine sr ?_
 refine vc_e (e_al (l := [_, _, _, _]) st rfl rfl zeroValue118 rfl ?_)
 intro b2 w hb2 st
 refine et (vk2 0 2 (vc_seq (sr ?_)))
 refine ym ?_
 refine vc_e (e_call [_] rfl rfl call109 rfl (phere_any c r hr _ (hC.k1 st.chg) (by exact st.rs 1)) ?_)
 rintro _ w ⟨rfl, cw⟩
 replace st := st.call0 cw
 refine vy (y_fld rfl underlying118 rfl rfl isAgg116 rfl) ?_
 refine vy (y_nei rfl rfl) ?_
 refine et (vk3 0 2 6 ?_)
 refine vif ?_ ?_
 ·intro hc6
  try simp only [dn] at hc6
  have hk : ¬ (here r).kind = 1 := by omega
  have hs : nameP c.e r = fail c.e 2 r := by unfold nameP; rw [if_neg hk]
  refine vc_region ?_
  refine ym ?_
  refine vc_e (e_callp [_, _] rfl rfl call50 rfl (pfail_any c 2 r hr _ (hC.k1 st.chg) (by exact st.rs 1) hR) (by rintro _ w' ⟨rfl, ch⟩ a ha; exact And.intro ha (Or.inr ⟨_, rfl, (atT c.e r, 2), by rw [hs]; rfl, rfl, st.chg.trans ch.of_nil⟩)) (fun _ _ h => h.elim))
 intro hc6
 try simp only [dn] at hc6
 have hk : (here r).kind = 1 := by omega
 have hs : nameP c.e r = .ok (here r, r.tail) := by unfold nameP; rw [if_pos hk]
 have hne := kind_ne hk (by decide)
 have hlt := tail_lt hne
 refine kt (vk2 0 2 (sr ?_))
 refine ym ?_
 refine vc_e (e_call [_] rfl rfl call111 rfl (pnext_any c r hr hne _ (hC.k1 st.chg) (by exact st.rs 1)) ?_)
 rintro _ w ⟨rfl, hP1, cw⟩
 replace st := St.prs (b := c.pb) st 1 rfl cw (.inl (.head _)) hP1
 dsimp only [setNth] at st
 refine vc_e (ests st 0 [_, _, _, _] sizeOf118 ?_)
 intro w st; dsimp only [setNth, wr] at st
 refine et (vk1 2 (vc_ret ?_))
 refine vq_ret1 st (.inl rfl) results146 (by exact .cell 0 rfl rfl isAgg118 sizeOf118) ?_
 refine .inl ⟨_, rfl, ?_⟩
 exact ⟨_, _, hs, List.tail_suffix _, hlt, (by exact st.rs 1), st.chg, rfl⟩
theorem pdecl_any (c : PCtx) (hR : c.R = 75) (r : List Tok) (hr : r <:+ c.ts) (w : World) (hC : PCok c w) (hP : PAt c r w) : RetP Tryz.prog 89 [.pointer (some ⟨c.pb, 0, none⟩)] w
    (PRes c r (declP c.e r) [c.pb] w fun d v _ => v = .agg (dcL d).toArray) (PErr c (declP c.e r) [c.pb] w) := by
 refine retp_of [_] func89 rfl ntmps89 rfl ?_
 obtain ⟨w0, rfl⟩ : ∃ w0, w0 = w := ⟨_, rfl⟩
 have hP' := hP
 dsimp only [PAt, pcell] at hP
 have st := St.of1 [c.pb] hP
 have h20 := hC.len
 have hl := suf_len hr
 have hs := declP.eq_1 c.e r
 refine sr ?_
 refine vc_e (e_al (l := [_, _, _]) st rfl rfl zeroValue63 rfl ?_)
 intro b2 w hb2 st
 refine et (vk2 0 2 (sr ?_))
 refine ym ?_
 refine vc_e (e_callp [_] rfl rfl call146 rfl (pname_any c hR r hr _ (hC.k1 st.chg) (by exact st.rs 1)) (by rintro _ w' ⟨f, hf, rfl, ch⟩ a ha; exact And.intro ha (Or.inr ⟨_, rfl, f, by rw [hs, hf], rfl, st.chg.trans ch⟩)) ?_)
 rintro _ w ⟨t, r1, hx, hsf, hln, hP1, cw, rfl⟩
 replace st := St.prs (b := c.pb) st 1 rfl cw (.inl (.head _)) hP1
 dsimp only [setNth] at st
 rw [hx] at hs; dsimp only at hs
 have hr1 := hsf.trans hr
 refine vc_e (e_al (l := [_, _, _, _]) st rfl rfl zeroValue118 rfl ?_)
 intro b3 w hb3 st
 refine vc_e (ests st 0 [_, _, _, _] sizeOf118 ?_)
 intro w st; dsimp only [setNth, wr] at st
 refine et (vk2 2 3 (sr ?_))
 refine yfz 1 underlying118 sizeOf9 ?_
 refine yl st 0 isAgg9 ?_
 refine yfz 3 underlying118 sizeOf3 ?_
 refine yl st 0 isAgg3 ?_
 refine vy (ybd (.agg #[_, _, _]) [(0, _), (2, _)]) ?_
 refine vc_e (ests st 1 [_, _, _] sizeOf63 ?_)
 intro w st; dsimp only [setNth, wr] at st
 refine et (vk1 2 (vc_ret ?_))
 refine vq_ret1 st (.inl rfl) results89 (by exact .cell 1 rfl rfl isAgg63 sizeOf63) ?_
 refine .inl ⟨_, rfl, ?_⟩
 exact ⟨_, _, hs, hsf, hln, (by exact st.rs 2), st.chg, rfl⟩
theorem pinit_any (c : PCtx) (hR : c.R = 75) (r : List Tok) (hr : r <:+ c.ts) (w : World) (hC : PCok c w) (hP : PAt c r w) : RetP Tryz.prog 88 [.pointer (some ⟨c.pb, 0, none⟩)] w
    (PRes c r (initP c.e r) [c.pb] w fun d v _ => v = .agg (dcL d).toArray) (PErr c (initP c.e r) [c.pb] w) := by
 refine retp_of [_] func88 rfl ntmps88 rfl ?_
 obtain ⟨w0, rfl⟩ : ∃ w0, w0 = w := ⟨_, rfl⟩
 have hP' := hP
 dsimp only [PAt, pcell] at hP
 have st := St.of1 [c.pb] hP
 have h20 := hC.len
 have hl := suf_len hr
 have hs := initP.eq_1 c.e r
 unfold declP at *
 refine sr ?_
 refine vc_e (e_al (l := [_, _, _]) st rfl rfl zeroValue63 rfl ?_)
 intro b2 w hb2 st
 refine et (vk2 0 2 (sr ?_))
 refine ym ?_
 refine vc_e (e_callp [_] rfl rfl call89 rfl (pdecl_any c hR r hr _ (hC.k1 st.chg) (by exact st.rs 1)) (by rintro _ w' ⟨f, hf, rfl, ch⟩ a ha; exact And.intro ha (Or.inr ⟨_, rfl, f, (by rw [hs]; unfold declP at hf; cases hn : nameP c.e r with | error g => rw [hn] at hf; exact hf | ok q => rw [hn] at hf; cases hf), rfl, st.chg.trans ch⟩)) ?_)
 rintro _ w ⟨d, r1, hx, hsf, hln, hP1, cw, rfl⟩
 replace st := St.prs (b := c.pb) st 1 rfl cw (.inl (.head _)) hP1
 dsimp only [setNth] at st
 obtain ⟨t, hn, rfl⟩ : ∃ t, nameP c.e r = .ok (t, r1) ∧ d = ⟨t.text, 0, (t.at_ : Int)⟩ := by
  unfold declP at hx
  cases hn : nameP c.e r with
  | error g => rw [hn] at hx; cases hx
  | ok q => rw [hn] at hx; cases hx; exact ⟨q.1, rfl, rfl⟩
 rw [hn] at hs; dsimp only at hs
 have hr1 := hsf.trans hr
 refine vc_e (e_al (l := [_, _, _]) st rfl rfl zeroValue63 rfl ?_)
 intro b3 w hb3 st
 refine vc_e (ests st 0 [_, _, _] sizeOf63 ?_)
 intro w st; dsimp only [setNth, wr] at st
 refine et (vk3 0 2 3 (vc_seq (sr ?_)))
 refine ym ?_
 refine vc_e (e_call [_, _] rfl rfl call86 rfl (ptake_any c [61] r1 hr1 _ (hC.k1 st.chg) (by exact st.rs 2)) ?_)
 rintro _ w ⟨rfl, hP1, cw⟩
 replace st := St.prs (b := c.pb) st 2 rfl cw (.inl (.head _)) hP1
 dsimp only [setNth] at st
 refine vy (y_not rfl) ?_
 refine et (vk4 0 2 3 9 ?_)
 refine vif ?_ ?_
 ·intro hc9
  try simp only [dn] at hc9
  have hF : isT [61] r1 = false := by simpa using hc9
  simp only [hF, Bool.false_eq_true, if_false] at st hs
  refine sr ?_
  refine yla st 0 [_, _, _] isAgg63 sizeOf63 ?_
  refine vc_e (ests st 1 [_, _, _] sizeOf63 ?_)
  intro w st; dsimp only [setNth, wr] at st
  refine et (vk1 2 (vc_ret (vq_then_ret ?_)))
  refine vq_ret1 st (.inl rfl) results88 (by exact .cell 1 rfl rfl isAgg63 sizeOf63) ?_
  refine .inl ⟨_, rfl, ?_⟩
  exact ⟨_, _, hs, hsf, hln, (by exact st.rs 2), st.chg, rfl⟩
 intro hc9
 try simp only [dn] at hc9
 have hT : isT [61] r1 = true := by simpa using hc9
 simp only [hT, if_true] at st hs
 have ht := tail_lt (isT_ne hT)
 have hr2 := suf_tail hr1
 refine kt (vk3 0 2 3 (sr ?_))
 refine ym ?_
 refine vc_e (e_call [_, _] rfl rfl call86 rfl (ptake_any c [45] r1.tail hr2 _ (hC.k1 st.chg) (by exact st.rs 2)) ?_)
 rintro _ w ⟨rfl, hP1, cw⟩
 replace st := St.prs (b := c.pb) st 2 rfl cw (.inl (.head _)) hP1
 dsimp only [setNth] at st
 obtain ⟨r3, hr3e⟩ : ∃ r3, r3 = (if isT [45] r1.tail = true then r1.tail.tail else r1.tail) := ⟨_, rfl⟩
 have hsf3 : r3 <:+ r1.tail := by rw [hr3e]; split; exact List.tail_suffix _; exact List.suffix_refl _
 rw [← hr3e] at st hs
 have hr3 := hsf3.trans hr2
 unfold wordP at hs
 refine ya ?_
 refine et (vk4 0 2 3 4 (vc_seq (sr ?_)))
 refine ym ?_
 refine vc_e (e_call [_] rfl rfl call109 rfl (phere_any c r3 hr3 _ (hC.k1 st.chg) (by exact st.rs 2)) ?_)
 rintro _ w ⟨rfl, cw⟩
 replace st := st.call0 cw
 refine vy (y_fld rfl underlying118 rfl rfl isAgg116 rfl) ?_
 refine vy (y_nei rfl rfl) ?_
 refine et (vk5 0 2 3 4 16 ?_)
 refine vif ?_ ?_
 ·intro hc16
  try simp only [dn] at hc16
  have hk : ¬ (here r3).kind = 3 := by omega
  rw [if_neg hk] at hs
  refine vc_region ?_
  refine ym ?_
  refine vc_e (e_callp [_, _] rfl rfl call50 rfl (pfail_any c 2 r3 hr3 _ (hC.k1 st.chg) (by exact st.rs 2) hR) (by rintro _ w' ⟨rfl, ch⟩ a ha; exact And.intro ha (Or.inr ⟨_, rfl, (atT c.e r3, 2), by rw [hs]; rfl, rfl, st.chg.trans ch.of_nil⟩)) (fun _ _ h => h.elim))
 intro hc16
 try simp only [dn] at hc16
 have hk : (here r3).kind = 3 := by omega
 rw [if_pos hk] at hs; dsimp only at hs
 have hne := kind_ne hk (by decide)
 have hlt := tail_lt hne
 have hle3 := hsf3.length_le
 refine kt (vk4 0 2 3 4 (sr ?_))
 refine ym ?_
 refine vc_e (e_call [_] rfl rfl call111 rfl (pnext_any c r3 hr3 hne _ (hC.k1 st.chg) (by exact st.rs 2)) ?_)
 rintro _ w ⟨rfl, hP1, cw⟩
 replace st := St.prs (b := c.pb) st 2 rfl cw (.inl (.head _)) hP1
 dsimp only [setNth] at st
 refine vy (y_fld rfl underlying118 rfl rfl isAgg2 rfl) ?_
 refine yfz 1 underlying63 sizeOf2 ?_
 refine vc_e (est st 0 sizeOf2 ?_)
 intro w st; dsimp only [setNth, wr] at st
 refine et (vk3 2 3 4 (vc_seq (sr ?_)))
 refine ym ?_
 refine et (vk3 2 3 23 ?_)
 refine vif ?_ ?_
 intro hc23
 try simp only [dn] at hc23
 rw [if_pos hc23] at hs
 refine vc_region ?_
 refine yfz 1 underlying63 sizeOf2 ?_
 refine yl st 0 isAgg2 ?_
 refine vy (y_neg rfl (neg_i64 (here_wd hC.wd hr3))) ?_
 refine yfz 1 underlying63 sizeOf2 ?_
 refine vc_e (est st 0 sizeOf2 ?_)
 intro w st; dsimp only [setNth, wr] at st
 refine vc_end ?_
 rotate_left
 intro hc23
 try simp only [dn] at hc23
 rw [if_neg (by rw [hc23]; simp)] at hs
 refine vc_code_skip ?_
 all_goals
  refine vq_then (vk2 2 3 (sr ?_))
  refine yla st 0 [_, _, _] isAgg63 sizeOf63 ?_
  refine vc_e (ests st 1 [_, _, _] sizeOf63 ?_)
  intro w st; dsimp only [setNth, wr] at st
  refine et (vk1 2 (vc_ret ?_))
  refine vq_ret1 st (.inl rfl) results88 (by exact .cell 1 rfl rfl isAgg63 sizeOf63) ?_
  refine .inl ⟨_, rfl, ?_⟩
  exact ⟨_, _, hs, (List.tail_suffix _).trans (hsf3.trans ((List.tail_suffix _).trans hsf)), by omega, (by exact st.rs 2), st.chg, rfl⟩
/-- a reader of one thing, as a method's value -/
def Reader (c : PCtx) (fo : FuncId) (F : List Tok → PR Dc) : Prop := ∀ (r : List Tok) (hr : r <:+ c.ts) (w : World) (hC : PCok c w) (hP : PAt c r w), RetP Tryz.prog fo [.pointer (some ⟨c.pb, 0, none⟩)] w
    (PRes c r (F r) [c.pb] w fun d v _ => v = .agg (dcL d).toArray) (PErr c (F r) [c.pb] w)
/-- a list's end, so much having come -/
def contL (e : Nat) (one : List Tok → PR Dc) (n : Nat) (acc : List Dc) (r : List Tok) : PR (List Dc) := if isT [44] r = true then (match listP e one n r.tail with
    | .error f => .error f
    | .ok (l, r') => .ok (acc ++ l, r'))
 else match want e [59] r with
  | .error f => .error f
  | .ok r' => .ok (acc, r')
theorem listP_cont (e : Nat) (one : List Tok → PR Dc) (n : Nat) (ts : List Tok) : listP e one (n + 1) ts = match one ts with
  | .error f => .error f
  | .ok (d, r) => contL e one n [d] r := by
 rw [listP]
 cases one ts with
 | error f => rfl
 | ok q => simp only [contL, List.singleton_append]; rfl
theorem contL_step (e : Nat) (one : List Tok → PR Dc) (n : Nat) (acc : List Dc) (r : List Tok) (h : isT [44] r = true) : contL e one (n + 1) acc r = match one r.tail with
  | .error f => .error f
  | .ok (d, r') => contL e one n (acc ++ [d]) r' := by
 rw [contL, if_pos h, listP_cont]
 cases one r.tail with
 | error f => rfl
 | ok q =>
  by_cases hc : isT [44] q.2 = true
  ·simp only [contL, if_pos hc]
   cases listP e one n q.2.tail with
   | error f => rfl
   | ok q2 => simp
  ·simp only [contL, if_neg hc]
   cases want e [59] q.2 with
   | error f => rfl
   | ok r2 => simp
theorem contL_end (e : Nat) (one : List Tok → PR Dc) (n : Nat) (acc : List Dc) (r : List Tok) (h : isT [44] r = false) : contL e one n acc r = match want e [59] r with
  | .error f => .error f
  | .ok r' => .ok (acc, r') := by rw [contL, if_neg (by simp [h])]

theorem plist_any (c : PCtx) (hR : c.R = 75) (fo : FuncId) (F : List Tok → PR Dc) (hcf : ∀ (az : Array Value) w, (callFunc fo az).run Tryz.prog w = .ok (.enter fo az) w) (hF : Reader c fo F) (n : Nat) (r : List Tok) (hn : r.length < n) (hr : r <:+ c.ts) (w : World) (hC : PCok c w) (hP : PAt c r w) :
    RetP Tryz.prog 87 [.pointer (some ⟨c.pb, 0, none⟩), .func (.func fo) [.pointer (some ⟨c.pb, 0, none⟩)].toArray #[]] w
  (PRes c r (listP c.e F n r) [c.pb] w fun ds v w' => ∃ oa cap Sq, v = .slice oa ds.length cap ∧ DcR 63 w' oa cap ds Sq ∧ Nw w.heap.size Sq) (PErr c (listP c.e F n r) [c.pb] w) := by
 obtain ⟨n, rfl⟩ : ∃ m, n = m + 1 := ⟨n - 1, by omega⟩
 refine retp_of [_, _] func87 rfl ntmps87 rfl ?_
 obtain ⟨w0, rfl⟩ : ∃ w0, w0 = w := ⟨_, rfl⟩
 have hP' := hP
 dsimp only [PAt, pcell] at hP
 have st := St.of1 [c.pb] hP
 have h20 := hC.len
 have hl := suf_len hr
 have hs := listP_cont c.e F n r
 refine sr ?_
 refine ya ?_
 refine et (vk2 0 1 (sr ?_))
 refine ym ?_
 refine vc_e (e_callvp [] rfl rfl rfl hcf rfl (hF r hr _ (hC.k1 st.chg) (by exact st.rs 0)) (by rintro _ w' ⟨f, hf, rfl, ch⟩ a ha; exact And.intro ha (Or.inr ⟨_, rfl, f, by rw [hs, hf], rfl, st.chg.trans ch⟩)) ?_)
 rintro _ w ⟨d0, r1, hx, hsf, hln, hP1, cw, rfl⟩
 replace st := St.prs (b := c.pb) st 0 rfl cw (.inl (.head _)) hP1
 dsimp only [setNth] at st
 rw [hx] at hs; dsimp only at hs
 have hr1 := hsf.trans hr
 refine vc_e (e_bs1 (l := [_, _, _]) st rfl rfl rfl rfl underlying23 sizeOf63 rfl rfl rfl zeroValue63 ?_)
 intro b8 w hb8 st
 replace st := st.toOwn (len := 1) (size := 3) hb8 rfl (by unfold maxLen; omega)
 refine ya ?_
 refine et (vk3 0 1 5 (vc_seq (vc_block ?_)))
 refine vc_loop (w0 := w0) (M := [c.pb]) (fun (y : Nat × List Dc × List Tok × Option Addr × Nat) => [(0, .pointer (some ⟨c.pb, 0, none⟩)), (1, .func (.func fo) [.pointer (some ⟨c.pb, 0, none⟩)].toArray #[]), (5, .slice y.2.2.2.1 y.2.1.length y.2.2.2.2)]) (fun y => [.own (.slice y.2.2.2.1 y.2.1.length y.2.2.2.2) 63 3 y.2.1.length (y.2.1.flatMap dcL), .blk c.pb (.cells (pcell c y.2.2.1).toArray c.T (0, 0))]) (fun y _ => y.2.2.1 <:+ r ∧ y.2.2.1.length + y.2.1.length ≤ r.length ∧ y.2.2.1.length < y.1 + 1 ∧ listP c.e F (n + 1) r = contL c.e F y.1 y.2.1 y.2.2.1) (fun y => y.2.2.1.length) (n, [d0], r1, _, _) ⟨rfl, rfl, rfl, trivial⟩ (by simpa [dcL] using st) ⟨hsf, by simp; omega, by dsimp only; omega, hs⟩ ?_
 clear st hs
 rintro ⟨m, acc, r2, oq, cq⟩ w ⟨hsf2, hl2, hm2, hs⟩ st
 dsimp only at hsf2 hl2 hm2 hs st
 have hr2 := hsf2.trans hr
 refine vc_seq (sr ?_)
 refine ym ?_
 refine vc_e (e_call [_, _] rfl rfl call86 rfl (ptake_any c [44] r2 hr2 _ (hC.k1 st.chg) (by exact st.rs 1)) ?_)
 rintro _ w ⟨rfl, hP1, cw⟩
 replace st := St.prs (b := c.pb) st 1 rfl cw (.inl (.head _)) hP1
 dsimp only [setNth] at st
 refine et (vk4 0 1 5 10 ?_)
 refine vif ?_ ?_
 ·intro hc10
  try simp only [dn] at hc10
  simp only [hc10, if_true] at st
  have ht := tail_lt (isT_ne hc10)
  have hr3 := suf_tail hr2
  obtain ⟨m, rfl⟩ : ∃ k, m = k + 1 := ⟨m - 1, by omega⟩
  rw [contL_step _ _ _ _ _ hc10] at hs
  refine kt (vk3 0 1 5 (vc_block (vc_region ?_)))
  iterate 2 refine ym ?_
  refine vc_e (e_callvp [] rfl rfl rfl hcf rfl (hF r2.tail hr3 _ (hC.k1 st.chg) (by exact st.rs 1)) (by rintro _ w' ⟨f, hf, rfl, ch⟩ a ha; exact And.intro ha (Or.inr ⟨_, rfl, f, by rw [hs, hf], rfl, st.chg.trans ch⟩)) ?_)
  rintro _ w ⟨d1, r4, hx4, hsf4, hln4, hP1, cw, rfl⟩
  replace st := St.prs (b := c.pb) st 1 rfl cw (.inl (.head _)) hP1
  dsimp only [setNth] at st
  rw [hx4] at hs; dsimp only at hs
  have hr4 := hsf4.trans hr3
  have h40 := hl2
  have h41 := hr.length_le
  refine vc_e (e_bs1 (l := [_, _, _]) st rfl rfl rfl rfl underlying23 sizeOf63 rfl rfl rfl zeroValue63 ?_)
  intro b14 w hb14 st
  refine vc_e (e_app (bytes := 32) st 1 0 rfl rfl rfl rfl rfl rfl underlying23 Tryz.info63 rfl rfl rfl rfl rfl (by simp) rfl rfl (by unfold maxLen; omega) (by omega) ?_)
  intro oaQ capQ w st; dsimp only [setNth] at st
  replace st := st.pick [1, 2] rfl (by decide)
  refine ya ?_
  refine vc_end (vq_block ?_)
  refine vq_again (m, acc ++ [d1], r4, oaQ, capQ)  (by refine ⟨rfl, rfl, ?_, trivial⟩; simp [find, put]) (by simpa [dcL] using st) ?_ ?_
  ·exact ⟨(hsf4.trans (List.tail_suffix _)).trans hsf2, by simp; omega, by dsimp only; omega, hs⟩
  ·dsimp only; omega
 intro hc10
 try simp only [dn] at hc10
 simp only [hc10, Bool.false_eq_true, if_false] at st
 rw [contL_end _ _ _ _ _ hc10] at hs
 refine vc_exit (vq_then_exit (vq_then_exit (vq_block_exit (vq_then (vk2 0 5 (sr ?_))))))
 refine ym ?_
 refine vc_e (e_bs1 (l := [_]) st rfl rfl rfl rfl underlying50 sizeOf9 rfl rfl rfl zeroValue9 ?_)
 intro b17 w hb17 st
 refine vc_e (e_callp [_, _] rfl rfl call145 rfl (pwant_any c [[59]] (by simp) _ _ _ _ rfl r2 hr2 _ (hC.k1 st.chg) (by exact st.rs 2) hR (st.res (i := 0) rfl) (by exact st.bne 0 2 (by decide) rfl rfl)) (by rintro _ w' ⟨f, hf, rfl, ch⟩ a ha; rw [wantL_one] at hf; exact And.intro ha (Or.inr ⟨_, rfl, f, by rw [hs, hf], rfl, st.chg.trans ch⟩)) ?_)
 rintro _ w ⟨r5, hx, hsfr5, hlnr5, hP1, cw⟩
 rw [wantL_one] at hx
 rw [hx] at hs; dsimp only at hs
 replace st := St.prs (b := c.pb) st 2 rfl cw (.inl (.head _)) hP1
 dsimp only [setNth] at st
 have hr5 := hsfr5.trans hr2
 refine et (vk1 5 (sr ?_))
 refine ym ?_
 refine ya ?_
 refine et (vk1 4 (vc_ret ?_))
 refine vq_ret1 st (.inl rfl) results87 (.tmp rfl) ?_
 refine .inl ⟨_, rfl, ?_⟩
 have hown := st.ownNw (i := 1) rfl
 exact ⟨_, _, hs, hsfr5.trans hsf2, by simp at hlnr5; omega, (by exact st.rs 2), st.chg, oq, cq, obk oq, rfl, ⟨hown.1, rfl⟩, hown.2⟩
end Go.Proofs.YtnmhlpnapgojjaaGreatDoor.Pq


/- A parser's trees: operators that wait; new rows of one and of two. -/
namespace Sx
open Go Go.RowKit LexS ParS

/-- the cells of an operator that waits, with its first side -/
abbrev pdC (p : Pend) (oa : Option Addr) (cap : Nat) : List Value := [.int .u8 (p.1 : Int), .int .i64 (p.2.1 : Int), .int .u8 p.2.2.k, .int .u8 p.2.2.op, .int .i64 p.2.2.wd, str p.2.2.nm, .slice oa p.2.2.kids.length cap, .int .i64 p.2.2.a]
/-- operators that wait: their cells, the top one's last; the blocks of their first sides -/
def PdSs (tE : Nat) (w : World) : List Pend → List Value → List Nat → Prop
  | [], xs, S => xs = [] ∧ S = []
  | p :: W, xs, S => ∃ oa cap S1 xr Sr, xs = xr ++ pdC p oa cap ∧ S = Sr ++ S1 ∧ ExR tE w oa cap p.2.2.kids S1 ∧ PdSs tE w W xr Sr
section
variable {tE : Nat} {w w' : World}
theorem PdSs.len : ∀ {W : List Pend} {xs : List Value} {S : List Nat}, PdSs tE w W xs S → xs.length = W.length * 8
  | [], xs, S, h => by rw [h.1]; rfl
  | p :: W, xs, S, ⟨oa, cap, S1, xr, Sr, e1, e2, h1, h2⟩ => by
    have := PdSs.len h2
    rw [e1]; simp; omega
theorem PdSs.lt : ∀ {W : List Pend} {xs : List Value} {S : List Nat}, PdSs tE w W xs S → ∀ b ∈ S, b < w.heap.size
  | [], xs, S, h, b, hb => by rw [h.2] at hb; simp at hb
  | p :: W, xs, S, ⟨oa, cap, S1, xr, Sr, e1, e2, h1, h2⟩, b, hb => by
    rw [e2] at hb
    rcases List.mem_append.1 hb with h | h
    · exact PdSs.lt h2 b h
    · exact h1.lt b h
theorem PdSs.kept : ∀ {W : List Pend} {xs : List Value} {S : List Nat}, PdSs tE w W xs S → (∀ b ∈ S, w'.heap[b]? = w.heap[b]?) → PdSs tE w' W xs S
  | [], xs, S, h, _ => h
  | p :: W, xs, S, ⟨oa, cap, S1, xr, Sr, e1, e2, h1, h2⟩, hk => by
    subst e2
    exact ⟨oa, cap, S1, xr, Sr, e1, rfl, h1.kept (fun b hb => hk b (List.mem_append.2 (.inr hb))), PdSs.kept h2 (fun b hb => hk b (List.mem_append.2 (.inl hb)))⟩
theorem holds_pd {base : Nat} {W : List Pend} {xs : List Value} {S : List Nat} (h : PdSs tE w W xs S) : (Res.tree S fun w => PdSs tE w W xs S).holds base w := holds_of h h.lt (fun a b h hk => h.kept hk)

theorem loc_ex {oa : Option Addr} {cap : Nat} {es : List Ex} {S : List Nat} : Loc S fun w => ExR tE w oa cap es S := loc_of fun a b h hk => h.kept hk
theorem loc_pd {W : List Pend} {xs : List Value} {S : List Nat} : Loc S fun w => PdSs tE w W xs S := loc_of fun a b h hk => h.kept hk
/-- a new block as a row -/
theorem own_new {b E sz len : Nat} {l : List Value} (h : w.heap[b]? = some (.cells l.toArray E (0, 0))) (hlen : l.length = len * sz) (hm : len ≤ maxLen) : w.ownsRow 0 E sz (.slice (some ⟨b, 0, none⟩) len len) len l := by
  refine ⟨hlen, .inr ⟨b, len, l.toArray, rfl, Nat.zero_le _, h, Nat.le_refl _, hm, by simpa using hlen, ?_⟩⟩
  rw [← hlen]
  simp
theorem ex_one {b : Nat} {x : Ex} {ox : Option Addr} {cx : Nat} {S : List Nat} (h : w.heap[b]? = some (.cells (exC x ox cx).toArray tE (0, 0))) (hx : ExR tE w ox cx x.kids S) : ExR tE w (some ⟨b, 0, none⟩) 1 [x] (b :: S) :=
  ⟨exC x ox cx, S, own_new h rfl (by simp [maxLen]), rfl, ExSs_one.2 (ExS_iff.2 ⟨ox, cx, rfl, hx⟩)⟩
theorem ex_two {b : Nat} {x y : Ex} {ox oy : Option Addr} {cx cy : Nat} {S T : List Nat} (h : w.heap[b]? = some (.cells (exC x ox cx ++ exC y oy cy).toArray tE (0, 0))) (hx : ExR tE w ox cx x.kids S) (hy : ExR tE w oy cy y.kids T) :
    ExR tE w (some ⟨b, 0, none⟩) 2 [x, y] (b :: (S ++ T)) :=
  ⟨exC x ox cx ++ exC y oy cy, S ++ T, own_new h rfl (by simp [maxLen]), rfl, (ExSs_app (a := [x]) (b := [y])).2 ⟨_, _, S, T, rfl, rfl, ExSs_one.2 (ExS_iff.2 ⟨ox, cx, rfl, hx⟩), ExSs_one.2 (ExS_iff.2 ⟨oy, cy, rfl, hy⟩)⟩⟩
end
section
variable {w w' w0 : World} {M : List Nat} {hs : List Res}
/-- an owned row, shortened -/
theorem own_take {base E size n m cap : Nat} {oa : Option Addr} {xs ys : List Value} (h : w.ownsRow base E size (.slice oa n cap) n (xs ++ ys)) (hm : m ≤ n) (hx : xs.length = m * size) : w.ownsRow base E size (.slice oa m cap) m xs := by
  rcases h with ⟨hl, h⟩
  refine ⟨hx, ?_⟩
  rcases h with ⟨e, h0⟩ | ⟨g, c, cur, e, hb, hg, hnc, hcm, hcs, htake⟩
  · simp only [Value.slice.injEq] at e
    obtain ⟨rfl, e2, rfl⟩ := e
    obtain rfl : m = 0 := by omega
    exact .inl ⟨rfl, rfl⟩
  · simp only [Value.slice.injEq] at e
    obtain ⟨rfl, -, rfl⟩ := e
    refine .inr ⟨g, cap, cur, rfl, hb, hg, by omega, hcm, hcs, ?_⟩
    have h1 : cur.toList.take (n * size) = xs ++ ys := by simpa using htake
    have h2 : m * size ≤ n * size := Nat.mul_le_mul_right _ hm
    have h3 : cur.toList.take (m * size) = xs := by
      have : cur.toList.take (m * size) = (cur.toList.take (n * size)).take (m * size) := by rw [List.take_take, Nat.min_eq_left h2]
      rw [this, h1, ← hx, List.take_left]
    simpa using h3
theorem own_cap {base E size n cap : Nat} {oa : Option Addr} {xs : List Value} (h : w.ownsRow base E size (.slice oa n cap) n xs) : n ≤ cap := by
  rcases h.2 with ⟨e, h0⟩ | ⟨g, c, cur, e, hb, hg, hnc, _⟩
  · omega
  · simp only [Value.slice.injEq] at e; omega
theorem own_some {base E size n cap : Nat} {oa : Option Addr} {xs : List Value} (h : w.ownsRow base E size (.slice oa n cap) n xs) (hn : 0 < n) : ∃ g, oa = some ⟨g, 0, none⟩ := by
  obtain ⟨g, c, e, -⟩ := own_form h hn
  simp only [Value.slice.injEq] at e
  exact ⟨g, e.1⟩
theorem app_at {α : Type} {xr l : List α} {k j : Nat} (h : xr.length = k) : (xr ++ l)[k + j]? = l[j]? := by rw [List.getElem?_append_right (by omega)]; congr 1; omega
theorem St.shrink {E size n m cap : Nat} {oa : Option Addr} {xs ys : List Value} (st : St w0 M (.own (.slice oa n cap) E size n (xs ++ ys) :: hs) w) (hm : m ≤ n) (hx : xs.length = m * size) : St w0 M (.own (.slice oa m cap) E size m xs :: hs) w :=
  st.turn0 (fun k hk => by rw [Res.at?, obk_own] at hk ⊢; exact hk) (own_take (st.res (i := 0) rfl) hm hx)
end

/-! ### what is parsed, so much having come -/
def contE (u : List Tok → PR Ex) (n : Nat) (W : List Pend) (x : Ex) (r : List Tok) : PR Ex := match flatE u n r with
  | .error f => .error f
  | .ok (l, r') => .ok (shunt l W x, r')
theorem exprW_cont (u : List Tok → PR Ex) (r : List Tok) : exprW u r = match u r with
    | .error f => .error f
    | .ok (x, r1) => contE u (r1.length + 1) [] x r1 := by
  unfold exprW contE
  cases u r with
  | error f => rfl
  | ok p => rfl
theorem redu_all : ∀ (lv lv' : Int) (W : List Pend) (x : Ex), redu true lv W x = redu true lv' W x
  | lv, lv', [], x => rfl
  | lv, lv', (op, a, l) :: W, x => by simp only [redu, true_or, if_true]; exact redu_all lv lv' W _
theorem contE_stop {u : List Tok → PR Ex} {n : Nat} {W : List Pend} {x z : Ex} {r : List Tok} {lv : Int} (h : opT (here r) = none) (hz : redu true lv W x = ([], z)) : contE u (n + 1) W x r = .ok (z, r) := by
  simp only [contE, flatE, h, shunt]
  rw [redu_all 0 lv, hz]
theorem contE_step {u : List Tok → PR Ex} {n : Nat} {W W' : List Pend} {x z : Ex} {r : List Tok} {op : Nat} (h : opT (here r) = some op) (hz : redu false (lvlO (op : Int)) W x = (W', z)) : contE u (n + 1) W x r = match u r.tail with
    | .error f => .error f
    | .ok (y, r') => contE u n ((op, (here r).at_, z) :: W') y r' := by
  simp only [contE, flatE, h]
  cases hu : u r.tail with
  | error f => rfl
  | ok p =>
    simp only
    cases hf : flatE u n p.2 with
    | error f => rfl
    | ok q => simp only [shunt]; rw [hz]
structure ESt where
  W : List Pend
  x : Ex
  r : List Tok
  n : Nat
  ow : Option Addr
  cw : Nat
  xs : List Value
  SW : List Nat
  ox : Option Addr
  cx : Nat
  Sx : List Nat
end Sx


/- The parser by operators that wait, and the one that climbs: the same trees. -/
namespace ParS
open Sx LexS

abbrev Flat := Nat × Nat × Ex
/-- climbing along operators that are cut already -/
def climbL : Nat → Int → Ex → List Flat → Ex × List Flat
  | 0, lv, x, l => (x, l)
  | n + 1, lv, x, [] => (x, [])
  | n + 1, lv, x, (op, a, y) :: l => if lvlO (op : Int) < lv then (x, (op, a, y) :: l) else
      climbL n lv (binE op a x (climbL n (lvlO (op : Int) + 1) y l).1) (climbL n (lvlO (op : Int) + 1) y l).2
theorem climbL_len : ∀ (n : Nat) (lv : Int) (x : Ex) (l : List Flat), (climbL n lv x l).2.length ≤ l.length
  | 0, lv, x, l => Nat.le_refl _
  | n + 1, lv, x, [] => Nat.le_refl _
  | n + 1, lv, x, (op, a, y) :: l => by
    simp only [climbL]
    split
    · exact Nat.le_refl _
    · have h1 := climbL_len n (lvlO (op : Int) + 1) y l
      have h2 := climbL_len n lv (binE op a x (climbL n (lvlO (op : Int) + 1) y l).1) (climbL n (lvlO (op : Int) + 1) y l).2
      simp only [List.length_cons]; omega
theorem climbL_fuel : ∀ (n m : Nat) (lv : Int) (x : Ex) (l : List Flat), l.length < n → l.length < m → climbL n lv x l = climbL m lv x l
  | 0, m, lv, x, l, h, _ => by omega
  | n + 1, 0, lv, x, l, _, h => by omega
  | n + 1, m + 1, lv, x, [], _, _ => rfl
  | n + 1, m + 1, lv, x, (op, a, y) :: l, h1, h2 => by
    simp only [List.length_cons] at h1 h2
    simp only [climbL]
    rw [climbL_fuel n m (lvlO (op : Int) + 1) y l (by omega) (by omega)]
    split
    · rfl
    · have h3 := climbL_len m (lvlO (op : Int) + 1) y l
      exact climbL_fuel n m _ _ _ (by omega) (by omega)
/-- what waits, finished by climbing -/
def contW : List Pend → Ex → List Flat → Ex
  | [], x, l => (climbL (l.length + 1) 1 x l).1
  | (op, a, left) :: W, x, l => contW W (binE op a left (climbL (l.length + 1) (lvlO (op : Int) + 1) x l).1) (climbL (l.length + 1) (lvlO (op : Int) + 1) x l).2
theorem contW_nil : ∀ (W : List Pend) (x : Ex), contW W x [] = (redu true 0 W x).2
  | [], x => rfl
  | (op, a, left) :: W, x => by
    simp only [contW, redu, climbL, true_or, if_true]
    exact contW_nil W _
theorem contW_push (W : List Pend) (op a : Nat) (x y : Ex) (l : List Flat) (h1 : 1 ≤ lvlO (op : Int)) (h2 : ∀ p W', W = p :: W' → lvlO (p.1 : Int) < lvlO (op : Int)) : contW W x ((op, a, y) :: l) = contW ((op, a, x) :: W) y l := by
  have key : ∀ lv : Int, lv ≤ lvlO (op : Int) → climbL (((op, a, y) :: l).length + 1) lv x ((op, a, y) :: l) =
      climbL ((climbL (l.length + 1) (lvlO (op : Int) + 1) y l).2.length + 1) lv (binE op a x (climbL (l.length + 1) (lvlO (op : Int) + 1) y l).1) (climbL (l.length + 1) (lvlO (op : Int) + 1) y l).2 := by
    intro lv hlv
    simp only [List.length_cons, climbL]
    rw [if_neg (by omega)]
    have h3 := climbL_len (l.length + 1) (lvlO (op : Int) + 1) y l
    exact climbL_fuel _ _ _ _ _ (by omega) (by omega)
  cases W with
  | nil => simp only [contW]; rw [key 1 h1]
  | cons p W =>
    obtain ⟨o, b, left⟩ := p
    simp only [contW]
    rw [key (lvlO (o : Int) + 1) (by have := h2 _ _ rfl; simp at this; omega)]
theorem contW_pop (W : List Pend) (o b op a : Nat) (left x y : Ex) (l : List Flat) (h : lvlO (op : Int) ≤ lvlO (o : Int)) : contW ((o, b, left) :: W) x ((op, a, y) :: l) = contW W (binE o b left x) ((op, a, y) :: l) := by
  simp only [contW, List.length_cons, climbL]
  rw [if_pos (by omega)]
theorem shunt_step : ∀ (W : List Pend) (x : Ex) (op a : Nat) (y : Ex) (l : List Flat), 1 ≤ lvlO (op : Int) →
    contW W x ((op, a, y) :: l) = contW ((op, a, (redu false (lvlO (op : Int)) W x).2) :: (redu false (lvlO (op : Int)) W x).1) y l
  | [], x, op, a, y, l, h => contW_push [] op a x y l h (by simp)
  | (o, b, left) :: W, x, op, a, y, l, h => by
    by_cases hc : lvlO (op : Int) ≤ lvlO (o : Int)
    · rw [contW_pop W o b op a left x y l hc, shunt_step W _ op a y l h]
      simp only [redu, Bool.false_eq_true, false_or, hc, if_true]
    · simp only [redu, Bool.false_eq_true, false_or, hc, if_false]
      exact contW_push _ op a x y l h (by rintro p W' e; simp only [List.cons.injEq] at e; obtain ⟨rfl, rfl⟩ := e; simp; omega)
/-- every operator of the list binds -/
def FlatOk (l : List Flat) : Prop := ∀ p ∈ l, 1 ≤ lvlO (p.1 : Int)
theorem shunt_cont : ∀ (l : List Flat) (W : List Pend) (x : Ex), FlatOk l → shunt l W x = contW W x l
  | [], W, x, _ => by simp only [shunt]; rw [contW_nil]
  | (op, a, y) :: l, W, x, h => by
    simp only [shunt]
    rw [shunt_step W x op a y l (h _ (.head _)), shunt_cont l _ _ (fun p hp => h p (.tail _ hp))]
theorem shunt_climb (l : List Flat) (x : Ex) (h : FlatOk l) : shunt l [] x = (climbL (l.length + 1) 1 x l).1 := shunt_cont l [] x h
theorem climbL_all : ∀ (n : Nat) (x : Ex) (l : List Flat), l.length < n → FlatOk l → (climbL n 1 x l).2 = []
  | 0, x, l, h, _ => by omega
  | n + 1, x, [], _, _ => rfl
  | n + 1, x, (op, a, y) :: l, h, hf => by
    simp only [List.length_cons] at h
    simp only [climbL]
    rw [if_neg (by have := hf _ (.head _); simp at this; omega)]
    have h1 := climbL_len n (lvlO (op : Int) + 1) y l
    refine climbL_all n _ _ (by omega) (fun p hp => ?_)
    exact hf p (.tail _ (climbL_mem n _ _ _ p hp))
where climbL_mem : ∀ (n : Nat) (lv : Int) (x : Ex) (l : List Flat) (p : Flat), p ∈ (climbL n lv x l).2 → p ∈ l
  | 0, lv, x, l, p, h => h
  | n + 1, lv, x, [], p, h => h
  | n + 1, lv, x, (op, a, y) :: l, p, h => by
    simp only [climbL] at h
    split at h
    · exact h
    · exact .tail _ (climbL_mem n _ _ _ p (climbL_mem n _ _ _ p h))

/-! ### on tokens -/
/-- climbing: the operand has come, operators of at least a level are gone along -/
def loopE (u : List Tok → PR Ex) : Nat → Int → Ex → List Tok → PR Ex
  | 0, lv, x, r => .error (0, 0)
  | n + 1, lv, x, r => match opT (here r) with
    | none => .ok (x, r)
    | some op => if lvlO (op : Int) < lv then .ok (x, r) else match u r.tail with
      | .error f => .error f
      | .ok (y, r1) => match loopE u n (lvlO (op : Int) + 1) y r1 with
        | .error f => .error f
        | .ok (z, r2) => loopE u n lv (binE op (here r).at_ x z) r2
/-- an operand's reader goes on -/
def Goes (u : List Tok → PR Ex) : Prop := ∀ r x r', u r = .ok (x, r') → r'.length < r.length
theorem findO_lvl {s : List UInt8} {op : Nat} (h : findO s = some op) : 1 ≤ lvlO (op : Int) := by
  unfold findO at h
  have h1 := List.find?_some h
  have h2 := List.mem_of_find?_eq_some h
  simp only [List.mem_range] at h2
  simp only [Bool.and_eq_true] at h1
  have key : ∀ k : Nat, k < 19 → twoOp (k : Int) = true → 1 ≤ lvlO (k : Int) := by decide
  exact key op h2 h1.1
theorem opT_lvl {t : Tok} {op : Nat} (h : opT t = some op) : 1 ≤ lvlO (op : Int) := by
  unfold opT at h; split at h
  · exact findO_lvl h
  · cases h
theorem opT_ne {r : List Tok} {op : Nat} (h : opT (here r) = some op) : r ≠ [] := by
  rintro rfl; simp [opT, here, tok0] at h
theorem flatE_fuel (u : List Tok → PR Ex) (hu : Goes u) : ∀ (n m : Nat) (r : List Tok), r.length < n → r.length < m → flatE u n r = flatE u m r
  | 0, m, r, h, _ => by omega
  | n + 1, 0, r, _, h => by omega
  | n + 1, m + 1, r, h1, h2 => by
    simp only [flatE]
    cases hop : opT (here r) with
    | none => rfl
    | some op =>
      simp only
      cases hx : u r.tail with
      | error f => rfl
      | ok p =>
        obtain ⟨x, r1⟩ := p
        simp only
        have := hu _ _ _ hx
        have := tail_lt (opT_ne hop)
        rw [flatE_fuel u hu n m r1 (by omega) (by omega)]
theorem flatE_ok (u : List Tok → PR Ex) : ∀ (n : Nat) (r : List Tok) (l : List Flat) (r' : List Tok), flatE u n r = .ok (l, r') → FlatOk l
  | 0, r, l, r', h => by simp [flatE] at h
  | n + 1, r, l, r', h => by
    simp only [flatE] at h
    cases hop : opT (here r) with
    | none => rw [hop] at h; cases h; intro p hp; simp at hp
    | some op =>
      rw [hop] at h
      simp only at h
      cases hx : u r.tail with
      | error f => rw [hx] at h; cases h
      | ok p =>
        obtain ⟨x, r1⟩ := p
        rw [hx] at h
        simp only at h
        cases hf : flatE u n r1 with
        | error f => rw [hf] at h; cases h
        | ok q =>
          obtain ⟨l1, r2⟩ := q
          rw [hf] at h
          cases h
          intro p hp
          rcases List.mem_cons.1 hp with rfl | hp
          · exact opT_lvl hop
          · exact flatE_ok u n r1 l1 _ hf p hp
/-- climbing on tokens goes as climbing on what is cut -/
theorem loopE_flat (u : List Tok → PR Ex) (hu : Goes u) : ∀ (n : Nat) (lv : Int) (x : Ex) (r : List Tok), r.length < n →
    (∀ l rE, flatE u n r = .ok (l, rE) → ∃ r', loopE u n lv x r = .ok ((climbL n lv x l).1, r') ∧ r'.length ≤ r.length ∧ flatE u n r' = .ok ((climbL n lv x l).2, rE) ∧ l.length ≤ r.length) ∧
    (∀ f, flatE u n r = .error f → loopE u n lv x r = .error f ∨ ∃ x' r', loopE u n lv x r = .ok (x', r') ∧ r'.length ≤ r.length ∧ flatE u n r' = .error f ∧ ∃ op, opT (here r') = some op ∧ lvlO (op : Int) < lv)
  | 0, lv, x, r, h => by omega
  | n + 1, lv, x, r, h => by
    cases hop : opT (here r) with
    | none =>
      have e1 : flatE u (n + 1) r = .ok ([], r) := by simp only [flatE, hop]
      have e2 : loopE u (n + 1) lv x r = .ok (x, r) := by simp only [loopE, hop]
      refine ⟨fun l rE hl => ?_, fun f hf => by rw [e1] at hf; cases hf⟩
      rw [e1] at hl; cases hl
      exact ⟨r, e2, Nat.le_refl _, e1, Nat.zero_le _⟩
    | some op =>
      have hne := tail_lt (opT_ne hop)
      cases hx : u r.tail with
      | error f0 =>
        have e1 : flatE u (n + 1) r = .error f0 := by simp only [flatE, hop, hx]
        refine ⟨fun l rE hl => by (rw [e1] at hl; cases hl), fun f hf => ?_⟩
        rw [e1] at hf; cases hf
        by_cases hlv : lvlO (op : Int) < lv
        · right
          exact ⟨x, r, by simp only [loopE, hop, hlv, if_true], Nat.le_refl _, e1, op, hop, hlv⟩
        · left
          simp only [loopE, hop, hlv, if_false, hx]
      | ok p =>
        obtain ⟨y, r1⟩ := p
        have hr1 := hu _ _ _ hx
        have e1 : flatE u (n + 1) r = match flatE u n r1 with | .error f => .error f | .ok (l, r') => .ok ((op, (here r).at_, y) :: l, r') := by first | (simp only [flatE, hop, hx]; done) | (simp only [flatE, hop, hx]; rfl)
        by_cases hlv : lvlO (op : Int) < lv
        · have e2 : loopE u (n + 1) lv x r = .ok (x, r) := by simp only [loopE, hop, hlv, if_true]
          refine ⟨fun l rE hl => ?_, fun f hf => .inr ⟨x, r, e2, Nat.le_refl _, hf, op, hop, hlv⟩⟩
          have hl' := hl
          rw [e1] at hl'
          cases hf : flatE u n r1 with
          | error f => rw [hf] at hl'; cases hl'
          | ok q =>
            obtain ⟨l1, r2⟩ := q
            rw [hf] at hl'
            simp only [Except.ok.injEq, Prod.mk.injEq] at hl'
            obtain ⟨rfl, rfl⟩ := hl'
            have hlen := ((loopE_flat u hu n 0 x r1 (by omega)).1 l1 _ hf).choose_spec.2.2.2
            refine ⟨r, ?_, Nat.le_refl _, ?_, by simp only [List.length_cons]; omega⟩
            · simp only [climbL, hlv, if_true]; exact e2
            · simp only [climbL, hlv, if_true]; exact hl
        · have e2 : loopE u (n + 1) lv x r = match loopE u n (lvlO (op : Int) + 1) y r1 with | .error f => .error f | .ok (z, r2) => loopE u n lv (binE op (here r).at_ x z) r2 := by simp only [loopE, hop, hlv, if_false, hx]
          obtain ⟨ihA, ihB⟩ := loopE_flat u hu n (lvlO (op : Int) + 1) y r1 (by omega)
          refine ⟨fun l rE hl => ?_, fun f hf => ?_⟩
          · have hl' := hl
            rw [e1] at hl'
            cases hf : flatE u n r1 with
            | error f => rw [hf] at hl'; cases hl'
            | ok q =>
              obtain ⟨l1, r2⟩ := q
              rw [hf] at hl'
              simp only [Except.ok.injEq, Prod.mk.injEq] at hl'
              obtain ⟨rfl, rfl⟩ := hl'
              obtain ⟨r3, h1, h2, h3, h4⟩ := ihA l1 _ hf
              obtain ⟨r4, k1, k2, k3, k4⟩ := (loopE_flat u hu n lv (binE op (here r).at_ x (climbL n (lvlO (op : Int) + 1) y l1).1) r3 (by omega)).1 _ _ h3
              refine ⟨r4, ?_, by omega, ?_, by simp only [List.length_cons]; omega⟩
              · rw [e2, h1]
                simp only [climbL, hlv, if_false]
                exact k1
              · simp only [climbL, hlv, if_false]
                rw [flatE_fuel u hu (n + 1) n r4 (by omega) (by omega)]
                exact k3
          · rw [e1] at hf
            have hf' : flatE u n r1 = .error f := by
              cases hq : flatE u n r1 with
              | error g => rw [hq] at hf; cases hf; rfl
              | ok q => rw [hq] at hf; cases hf
            rcases ihB f hf' with h1 | ⟨x', r', h1, h2, h3, op', h4, h5⟩
            · left; rw [e2, h1]
            · rcases (loopE_flat u hu n lv (binE op (here r).at_ x x') r' (by omega)).2 f h3 with k1 | ⟨x2, r2, k1, k2, k3, k4⟩
              · left; rw [e2, h1]; exact k1
              · right
                refine ⟨x2, r2, by rw [e2, h1]; exact k1, by omega, ?_, k4⟩
                rw [flatE_fuel u hu (n + 1) n r2 (by omega) (by omega)]
                exact k3
/-- an expression, by climbing -/
def climbE (u : List Tok → PR Ex) (lv : Int) (r : List Tok) : PR Ex := match u r with
  | .error f => .error f
  | .ok (x, r1) => loopE u (r1.length + 1) lv x r1
theorem climbE_expr (u : List Tok → PR Ex) (hu : Goes u) (r : List Tok) : climbE u 1 r = exprW u r := by
  unfold climbE exprW
  cases hx : u r with
  | error f => rfl
  | ok p =>
    obtain ⟨x, r1⟩ := p
    simp only
    obtain ⟨hA, hB⟩ := loopE_flat u hu (r1.length + 1) 1 x r1 (by omega)
    cases hf : flatE u (r1.length + 1) r1 with
    | error f =>
      simp only
      rcases hB f hf with h | ⟨x', r', h1, h2, h3, op, h4, h5⟩
      · exact h
      · have := opT_lvl h4; omega
    | ok q =>
      obtain ⟨l, rE⟩ := q
      simp only
      obtain ⟨r', h1, h2, h3, h4⟩ := hA l rE hf
      have hok := flatE_ok u _ _ _ _ hf
      rw [climbL_all _ _ _ (by omega) hok] at h3
      have e : r' = rE := by
        simp only [flatE] at h3
        cases hop : opT (here r') with
        | none => rw [hop] at h3; simp at h3; exact h3
        | some op =>
          rw [hop] at h3
          simp only at h3
          cases hy : u r'.tail with
          | error f => rw [hy] at h3; cases h3
          | ok q2 =>
            obtain ⟨y, r2⟩ := q2
            rw [hy] at h3
            simp only at h3
            cases hq : flatE u r1.length r2 with
            | error f => rw [hq] at h3; cases h3
            | ok q3 => rw [hq] at h3; simp at h3
      rw [h1, e, shunt_climb l x hok, climbL_fuel _ (l.length + 1) 1 x l (by omega) (by omega)]
theorem loopE_fuel (u : List Tok → PR Ex) (hu : Goes u) (hL : ∀ n lv x r z r', loopE u n lv x r = .ok (z, r') → r'.length ≤ r.length) : ∀ (n m : Nat) (lv : Int) (x : Ex) (r : List Tok), r.length < n → r.length < m → loopE u n lv x r = loopE u m lv x r
  | 0, m, lv, x, r, h, _ => by omega
  | n + 1, 0, lv, x, r, _, h => by omega
  | n + 1, m + 1, lv, x, r, h1, h2 => by
    simp only [loopE]
    cases hop : opT (here r) with
    | none => rfl
    | some op =>
      simp only
      have := tail_lt (opT_ne hop)
      split
      · rfl
      · cases hx : u r.tail with
        | error f => rfl
        | ok p =>
          obtain ⟨y, r1⟩ := p
          simp only
          have := hu _ _ _ hx
          rw [loopE_fuel u hu hL n m (lvlO (op : Int) + 1) y r1 (by omega) (by omega)]
          cases hz : loopE u m (lvlO (op : Int) + 1) y r1 with
          | error f => rfl
          | ok q =>
            obtain ⟨z, r2⟩ := q
            simp only
            have := hL _ _ _ _ _ _ hz
            exact loopE_fuel u hu hL n m _ _ _ (by omega) (by omega)
theorem loopE_len (u : List Tok → PR Ex) (hu : Goes u) : ∀ (n : Nat) (lv : Int) (x : Ex) (r : List Tok) (z : Ex) (r' : List Tok), loopE u n lv x r = .ok (z, r') → r'.length ≤ r.length
  | 0, lv, x, r, z, r', h => by simp [loopE] at h
  | n + 1, lv, x, r, z, r', h => by
    simp only [loopE] at h
    cases hop : opT (here r) with
    | none => rw [hop] at h; cases h; exact Nat.le_refl _
    | some op =>
      rw [hop] at h
      simp only at h
      have := tail_lt (opT_ne hop)
      split at h
      · cases h; exact Nat.le_refl _
      · cases hx : u r.tail with
        | error f => rw [hx] at h; cases h
        | ok p =>
          obtain ⟨y, r1⟩ := p
          rw [hx] at h
          simp only at h
          have := hu _ _ _ hx
          cases hz : loopE u n (lvlO (op : Int) + 1) y r1 with
          | error f => rw [hz] at h; cases h
          | ok q =>
            obtain ⟨z1, r2⟩ := q
            rw [hz] at h
            simp only at h
            have := loopE_len u hu _ _ _ _ _ _ hz
            have := loopE_len u hu _ _ _ _ _ _ h
            omega
end ParS


namespace Go.Proofs.YtnmhlpnapgojjaaGreatDoor.Pq
open Go.RowKit Sx LexS ParS _root_.Go.Proofs.Tryz
theorem Tryz.info145 : Tryz.prog.info? 145 = some Tryz.t145 := by kernel_rfl
theorem Tryz.info42 : Tryz.prog.info? 42 = some Tryz.t42 := by kernel_rfl
/-- an expression's value, and the new memory that it hangs on -/
def HE (w : World) (x : Ex) (v : Value) (w' : World) : Prop := ∃ oq cq Sq, v = .agg (exC x oq cq).toArray ∧ ExR 42 w' oq cq x.kids Sq ∧ Nw w.heap.size Sq
/-- a reader of expressions that lie so deep -/
def DRead (fo : FuncId) (c : PCtx) (d : Nat) (F : List Tok → PR Ex) : Prop := ∀ (r : List Tok) (hr : r <:+ c.ts) (w : World) (hC : PCok c w) (hP : PAt c r w), RetP Tryz.prog fo [.pointer (some ⟨c.pb, 0, none⟩), .int .i64 (d : Int)] w
    (PRes c r (F r) [c.pb] w (HE w)) (PErr c (F r) [c.pb] w)
abbrev ex00 : List Value := [.int .u8 0, .int .u8 0, .int .i64 0, str [], .slice none 0 0, .int .i64 0]

set_option maxHeartbeats 1000000 in
theorem pexpr_of (c : PCtx) (hR : c.R = 75) (hg : c.g = 0) (d m : Nat) (hU : DRead 108 c d (unaryP c.e m)) : DRead 49 c d (exprW (unaryP c.e m)) := by
 intro r hr w hC hP
 refine retp_of [_, _] func49 rfl ntmps49 rfl ?_
 obtain ⟨w0, rfl⟩ : ∃ w0, w0 = w := ⟨_, rfl⟩
 have hP' := hP
 dsimp only [PAt, pcell] at hP
 have st := St.of1 [c.pb] hP
 have h20 := hC.len
 have hl := suf_len hr
 have hs := exprW_cont (unaryP c.e m) r
 replace st := St.pushR (r := .tree [] (fun w => PdSs 42 w [] [] [])) st (Chg.refl _ _) (holds_pd ⟨rfl, rfl⟩) (by simp [Res.at?])
 replace st := st.ownNil 145 8
 refine sr ?_
 refine vc_e (e_al (l := [_, _, _, _, _, _]) st rfl rfl zeroValue42 rfl ?_)
 intro b4 w hb4 st
 refine et (vk3 0 1 4 (sr ?_))
 refine ya ?_
 refine et (vk4 0 1 4 5 (sr ?_))
 iterate 2 refine ym ?_
 refine vc_e (e_callp [_, _] rfl rfl call108 rfl (hU r hr _ (hC.k1 st.chg) (by exact st.rs 3)) (by rintro _ w' ⟨f, hf, rfl, ch⟩ a ha; exact And.intro ha (Or.inr ⟨_, rfl, f, by rw [hs, hf], rfl, st.chg.trans ch⟩)) ?_)
 rintro _ w ⟨x0, r0, hx, hsfr0, hlnr0, hP1, cw, ox0, cx0, Sx0, rfl, hQ, hN⟩
 have hNSx0 := hN.le st.chg.size
 replace st := St.prsT (b := c.pb) st 3 rfl cw (.inl (.head _)) hP1 (holds_ex hQ) hN.2
 dsimp only [setNth] at st
 rw [hx] at hs; dsimp only at hs
 refine vc_e (e_al (l := [_, _, _, _, _, _]) st rfl rfl zeroValue42 rfl ?_)
 intro b6 w hb6 st
 refine vc_e (ests st 0 [_, _, _, _, _, _] sizeOf42 ?_)
 intro w st; dsimp only [setNth, wr] at st
 refine et (vk5 0 1 4 5 6 (vc_block ?_))
 refine vc_loop (w0 := w0) (M := [c.pb]) (fun (y : ESt) => [(0, .pointer (some ⟨c.pb, 0, none⟩)), (1, .int .i64 (d : Int)), (4, .pointer (some ⟨b4, 0, none⟩)), (5, .slice y.ow y.W.length y.cw), (6, .pointer (some ⟨b6, 0, none⟩))]) (fun (y : ESt) => [.own (.slice y.ow y.W.length y.cw) 145 8 y.W.length y.xs, .tree y.SW (fun w => PdSs 42 w y.W y.xs y.SW), .blk b6 (.cells (exC y.x y.ox y.cx).toArray 42 (0, 0)), .tree y.Sx (fun w => ExR 42 w y.ox y.cx y.x.kids y.Sx), .blk b4 (.cells ex00.toArray 42 (0, 0)), .blk c.pb (.cells (pcell c y.r).toArray c.T (0, 0))]) (fun (y : ESt) _ => y.r <:+ r ∧ y.r.length < r.length ∧ y.W.length + y.r.length ≤ r.length ∧ y.r.length < y.n ∧ Nw w0.heap.size y.SW ∧ Nw w0.heap.size y.Sx ∧ exprW (unaryP c.e m) r = contE (unaryP c.e m) y.n y.W y.x y.r) (fun (y : ESt) => y.r.length) ⟨[], x0, r0, r0.length + 1, none, 0, [], [], ox0, cx0, Sx0⟩ ⟨rfl, rfl, rfl, rfl, rfl, trivial⟩ (st.pick [3, 4, 0, 1, 2, 5] rfl (by decide)) ⟨hsfr0, hlnr0, by simp; omega, by dsimp only; omega, Nw.nil, hNSx0, hs⟩ ?_
 clear st hs
 rintro ⟨W, x, r1, n, ow, cW, xs, SW, ox, cx, Sx⟩ w ⟨hsf1, hlt1, hWl, hn1, hSW, hSx, hs⟩ st
 dsimp only at hsf1 hlt1 hWl hn1 hSW hSx hs st
 have hr1 := hsf1.trans hr
 obtain ⟨n, rfl⟩ : ∃ k, n = k + 1 := ⟨n - 1, by omega⟩
 refine vc_block (sr ?_)
 refine ym ?_
 refine vc_e (e_call [_] rfl rfl call109 rfl (phere_any c r1 hr1 _ (hC.k1 st.chg) (by exact st.rs 5)) ?_)
 rintro _ w ⟨rfl, cw⟩
 replace st := st.call0 cw
 refine vc_e (e_al (l := [_, _, _, _]) st rfl rfl zeroValue118 rfl ?_)
 intro b7 w hb7 st
 refine vc_e (ests st 0 [_, _, _, _] sizeOf118 ?_)
 intro w st; dsimp only [setNth, wr] at st
 refine et (vk6 0 1 4 5 6 7 (sr ?_))
 refine yfz 1 underlying118 sizeOf9 ?_
 refine yl st 0 isAgg9 ?_
 refine vc_e (e_call [_] rfl rfl call110 rfl (find_any (here r1).text _ (hg ▸ (hC.k1 st.chg).sig)) ?_)
 rintro _ _ ⟨rfl, rfl⟩
 refine ym ?_
 iterate 2 refine vy (y_ext rfl rfl) ?_
 iterate 2 refine ya ?_
 refine et (vk8 0 1 4 5 6 7 8 9 ?_)
 refine vc_cut (w0 := w0) (M := [c.pb]) (fun (b : Bool) => [(0, .pointer (some ⟨c.pb, 0, none⟩)), (1, .int .i64 (d : Int)), (4, .pointer (some ⟨b4, 0, none⟩)), (5, .slice (ESt.mk W x r1 n ow cW xs SW ox cx Sx).ow (ESt.mk W x r1 n ow cW xs SW ox cx Sx).W.length (ESt.mk W x r1 n ow cW xs SW ox cx Sx).cw), (6, .pointer (some ⟨b6, 0, none⟩)), (7, .pointer (some ⟨b7, 0, none⟩)), (8, .int .u8 (((findO (here r1).text).getD 0 : Nat) : Int)), (9, .bool b)]) (fun _ => [.blk b7 (.cells (tkL (here r1)).toArray 118 (0, 0)), .own (.slice (ESt.mk W x r1 n ow cW xs SW ox cx Sx).ow (ESt.mk W x r1 n ow cW xs SW ox cx Sx).W.length (ESt.mk W x r1 n ow cW xs SW ox cx Sx).cw) 145 8 (ESt.mk W x r1 n ow cW xs SW ox cx Sx).W.length (ESt.mk W x r1 n ow cW xs SW ox cx Sx).xs, .tree (ESt.mk W x r1 n ow cW xs SW ox cx Sx).SW (fun w => PdSs 42 w (ESt.mk W x r1 n ow cW xs SW ox cx Sx).W (ESt.mk W x r1 n ow cW xs SW ox cx Sx).xs (ESt.mk W x r1 n ow cW xs SW ox cx Sx).SW), .blk b6 (.cells (exC (ESt.mk W x r1 n ow cW xs SW ox cx Sx).x (ESt.mk W x r1 n ow cW xs SW ox cx Sx).ox (ESt.mk W x r1 n ow cW xs SW ox cx Sx).cx).toArray 42 (0, 0)), .tree (ESt.mk W x r1 n ow cW xs SW ox cx Sx).Sx (fun w => ExR 42 w (ESt.mk W x r1 n ow cW xs SW ox cx Sx).ox (ESt.mk W x r1 n ow cW xs SW ox cx Sx).cx (ESt.mk W x r1 n ow cW xs SW ox cx Sx).x.kids (ESt.mk W x r1 n ow cW xs SW ox cx Sx).Sx), .blk b4 (.cells ex00.toArray 42 (0, 0)), .blk c.pb (.cells (pcell c r1).toArray c.T (0, 0))]) (fun b _ => b = (opT (here r1)).isSome) ?_ ?_
 ·refine vc_region ?_
  refine ym ?_
  refine vmb ?_ ?_
  ·intro hg23
   try simp only [dn] at hg23
   refine vy (y_fa0 rfl underlying118 rfl rfl sizeOf116 rfl) ?_
   refine yl st 0 isAgg116 ?_
   refine vy (y_eqi rfl rfl) ?_
   refine ypt ?_
   refine ya ?_
   refine vc_end ?_
   refine vq_meet (decide (((here r1).kind : Int) = 4)) ⟨rfl, rfl, rfl, rfl, rfl, rfl, rfl, rfl, trivial⟩ st ?_
   ·show decide _ = _
    have hk4 : ((here r1).kind : Int) = 4 ↔ (here r1).kind = 4 := by omega
    unfold opT
    by_cases hk : (here r1).kind = 4
    ·simp [hk, hg23]
    ·simp [hk, hk4]
  intro hg23
  try simp only [dn] at hg23
  iterate 3 refine vsk ?_
  refine ypf ?_
  refine ya ?_
  refine vc_end ?_
  refine vq_meet false ⟨rfl, rfl, rfl, rfl, rfl, rfl, rfl, rfl, trivial⟩ st ?_
  ·show false = _
   unfold opT
   split
   ·exact hg23.symm
   ·rfl
 clear st
 rintro isop w hop st
 dsimp only at hop st
 refine vc_cut (w0 := w0) (M := [c.pb]) (fun (z : ESt) => [(0, .pointer (some ⟨c.pb, 0, none⟩)), (1, .int .i64 (d : Int)), (4, .pointer (some ⟨b4, 0, none⟩)), (5, .slice z.ow z.W.length z.cw), (6, .pointer (some ⟨b6, 0, none⟩)), (7, .pointer (some ⟨b7, 0, none⟩)), (8, .int .u8 (((findO (here r1).text).getD 0 : Nat) : Int)), (9, .bool isop)]) (fun (z : ESt) => [.blk b7 (.cells (tkL (here r1)).toArray 118 (0, 0)), .own (.slice z.ow z.W.length z.cw) 145 8 z.W.length z.xs, .tree z.SW (fun w => PdSs 42 w z.W z.xs z.SW), .blk b6 (.cells (exC z.x z.ox z.cx).toArray 42 (0, 0)), .tree z.Sx (fun w => ExR 42 w z.ox z.cx z.x.kids z.Sx), .blk b4 (.cells ex00.toArray 42 (0, 0)), .blk c.pb (.cells (pcell c r1).toArray c.T (0, 0))]) (fun (z : ESt) _ => z.W.length ≤ W.length ∧ Nw w0.heap.size z.SW ∧ Nw w0.heap.size z.Sx ∧ redu (!isop) (lvlO (((findO (here r1).text).getD 0 : Nat) : Int)) W x = (z.W, z.x) ∧ (isop = false → z.W = [])) ?_ ?_
 ·refine vc_block ?_
  refine vc_loop (w0 := w0) (M := [c.pb]) (fun (z : ESt) => [(0, .pointer (some ⟨c.pb, 0, none⟩)), (1, .int .i64 (d : Int)), (4, .pointer (some ⟨b4, 0, none⟩)), (5, .slice z.ow z.W.length z.cw), (6, .pointer (some ⟨b6, 0, none⟩)), (7, .pointer (some ⟨b7, 0, none⟩)), (8, .int .u8 (((findO (here r1).text).getD 0 : Nat) : Int)), (9, .bool isop)]) (fun (z : ESt) => [.blk b7 (.cells (tkL (here r1)).toArray 118 (0, 0)), .own (.slice z.ow z.W.length z.cw) 145 8 z.W.length z.xs, .tree z.SW (fun w => PdSs 42 w z.W z.xs z.SW), .blk b6 (.cells (exC z.x z.ox z.cx).toArray 42 (0, 0)), .tree z.Sx (fun w => ExR 42 w z.ox z.cx z.x.kids z.Sx), .blk b4 (.cells ex00.toArray 42 (0, 0)), .blk c.pb (.cells (pcell c r1).toArray c.T (0, 0))]) (fun (z : ESt) _ => z.W.length ≤ W.length ∧ Nw w0.heap.size z.SW ∧ Nw w0.heap.size z.Sx ∧ redu (!isop) (lvlO (((findO (here r1).text).getD 0 : Nat) : Int)) W x = redu (!isop) (lvlO (((findO (here r1).text).getD 0 : Nat) : Int)) z.W z.x) (fun (z : ESt) => z.W.length) ⟨W, x, r1, n, ow, cW, xs, SW, ox, cx, Sx⟩ ⟨rfl, rfl, rfl, rfl, rfl, rfl, rfl, rfl, trivial⟩ st ⟨Nat.le_refl _, hSW, hSx, rfl⟩ ?_
  clear st
  rintro ⟨zW, zx, zr, zn, zow, zcW, zxs, zSW, zox, zcx, zSx⟩ w ⟨hzl, hzSW, hzSx, hzr⟩ st
  dsimp only at hzl hzSW hzSx hzr st
  refine vc_seq (sr ?_)
  refine ym ?_
  refine vy (y_lensl rfl underlying140) ?_
  refine vy (y_gtr rfl rfl) ?_
  refine vmb ?_ ?_
  ·intro hg31
   try simp only [dn] at hg31
   obtain ⟨⟨po, pa, pl⟩, W2, rfl⟩ : ∃ p W2, zW = p :: W2 := by cases zW with | nil => simp at hg31 | cons p W2 => exact ⟨p, W2, rfl⟩
   obtain ⟨ol, cl, Sl, xr, Sr, rfl, hS, hRl, hPr⟩ := (st.res (i := 2) rfl).1
   have hxl := hPr.len
   have hzl2 : W2.length + 1 ≤ W.length := by simpa using hzl
   have hcap := own_cap (st.res (i := 1) rfl)
   obtain ⟨gb, rfl⟩ := own_some (st.res (i := 1) rfl) (by simp)
   refine ym ?_
   refine vy (y_not rfl) ?_
   refine vmb ?_ ?_
   ·intro hg34
    try simp only [dn] at hg34
    iterate 11 refine vsk ?_
    iterate 2 refine ypt ?_
    refine et (vk9 0 1 4 5 6 7 8 9 47 ?_)
    refine vc_ift rfl ?_
    refine kt (vk8 0 1 4 5 6 7 8 9 (vc_block (sr ?_)))
    subst hS
    have st0 := (st.pick [2, 0, 1, 3, 4, 5, 6] rfl (by decide)).split hzSW.1 hPr hRl loc_pd loc_ex
    replace st := st0.pick [2, 3, 0, 1, 4, 5, 6, 7] rfl (by decide)
    iterate 2 refine ym ?_
    refine vy (y_lensl rfl underlying140) ?_
    refine vy (y_sub rfl rfl (by simp : _ = (W2.length : Int)) (by omega) (by omega)) ?_
    refine vy (y_ia0 (k := W2.length) rfl rfl underlying140 sizeOf145 rfl (by simp)) ?_
    refine vy (y_ldoa (vs := pdC (po, pa, pl) ol cl) st 1 rfl isAgg145 sizeOf145 rfl rfl (fun j v hj => (app_at hxl).trans hj)) ?_
    refine vc_e (e_al (l := [_, _, _, _, _, _, _, _]) st rfl rfl zeroValue145 rfl ?_)
    intro b10 w hb10 st
    refine vc_e (ests st 0 [_, _, _, _, _, _, _, _] sizeOf145 ?_)
    intro w st; dsimp only [setNth, wr] at st
    refine et (vk9 0 1 4 5 6 7 8 9 10 (sr ?_))
    iterate 2 refine ym ?_
    refine vy (y_lensl rfl underlying140) ?_
    refine vy (y_sub rfl rfl (by simp : _ = (W2.length : Int)) (by omega) (by omega)) ?_
    refine vy (y_slh (j := W2.length) rfl rfl underlying140 sizeOf145 rfl (by show W2.length ≤ zcW; simp at hcap; omega)) ?_
    refine ya ?_
    refine et (vk9 0 1 4 5 6 7 8 9 10 (vc_region ?_))
    replace st := (st.pick [2, 0, 1, 3, 4, 5, 6, 7, 8] rfl (by decide)).shrink (m := W2.length) (by simp) hxl
    refine vy (y_fa0 rfl underlying145 rfl rfl sizeOf39 rfl) ?_
    refine yl st 1 isAgg39 ?_
    refine yfz 2 underlying145 sizeOf42 ?_
    refine yla st 1 [_, _, _, _, _, _] isAgg42 sizeOf42 ?_
    refine yla st 5 [_, _, _, _, _, _] isAgg42 sizeOf42 ?_
    refine vc_e (e_bsn (l := exC pl ol cl ++ exC zx zox zcx) (E := 42) st [(0, _), (1, _)] rfl rfl rfl (fun w => by simp [Instr.buildSlice, run_underlying underlying40, sizeOf42, zeroValue42, Instr.fill, newRow, newObj, Sem.run, go_sem, Value.cells]) ?_)
    intro b64 w hb64 st
    refine yfz 1 underlying145 sizeOf3 ?_
    refine yl st 2 isAgg3 ?_
    refine vy (ybd (.agg #[_, _, _, _, _, _]) [(0, _), (1, _), (4, _), (5, _)]) ?_
    refine vc_e (ests st 6 [_, _, _, _, _, _] sizeOf42 ?_)
    intro w st; dsimp only [setNth, wr] at st
    refine vc_end (vq_block ?_)
    refine vq_again ⟨W2, binE po pa pl zx, zr, zn, some ⟨gb, 0, none⟩, zcW, xr, Sr, some ⟨b64, 0, none⟩, 2, b64 :: (Sl ++ zSx)⟩  ⟨rfl, rfl, rfl, rfl, rfl, rfl, rfl, rfl, trivial⟩ (by
      have hE := ex_two (st.res (i := 0) rfl) (st.res (i := 5) rfl).1 (st.res (i := 7) rfl).1
      exact (((st.pick [0, 5, 7, 3, 1, 4, 6, 8, 9] rfl (by decide)).joinN 3 (q := .tree (b64 :: (Sl ++ zSx)) fun w => ExR 42 w (some ⟨b64, 0, none⟩) 2 [pl, zx] (b64 :: (Sl ++ zSx))) (fun k hk => by
        rcases List.mem_cons.1 hk with rfl | hk
        · exact ⟨_, .head _, .head _⟩
        · rcases List.mem_append.1 hk with h | h
          · exact ⟨_, .tail _ (.head _), h⟩
          · exact ⟨_, .tail _ (.tail _ (.head _)), h⟩) (holds_ex hE))).pick [1, 2, 3, 4, 0, 5, 6] rfl (by decide)) ?_ ?_
    ·have hrd : redu (!isop) (lvlO (((findO (here r1).text).getD 0 : Nat) : Int)) ((po, pa, pl) :: W2) zx = redu (!isop) (lvlO (((findO (here r1).text).getD 0 : Nat) : Int)) W2 (binE po pa pl zx) := by
      simp only [redu]
      rw [if_pos (.inl (by rw [hg34]; rfl))]
     refine ⟨by simp at hzl; dsimp only; omega, hzSW.left, ?_, hzr.trans hrd⟩
     refine Nw.app (S := [b64]) ⟨by simp, by simpa using hb64⟩ (hzSW.right.app hzSx (st.ne (i := 5) (j := 7) (by decide) rfl rfl)) (fun b hb hb' => ?_)
     rcases List.mem_append.1 hb' with h | h
     ·exact st.ne (i := 0) (j := 5) (by decide) rfl rfl b hb h
     ·exact st.ne (i := 0) (j := 7) (by decide) rfl rfl b hb h
    ·simp
   intro hg34
   try simp only [dn] at hg34
   iterate 2 refine ym ?_
   refine vy (y_lensl rfl underlying140) ?_
   refine vy (y_sub rfl rfl (by simp : _ = (W2.length : Int)) (by omega) (by omega)) ?_
   refine vy (y_ia0 (k := W2.length) rfl rfl underlying140 sizeOf145 rfl (by simp)) ?_
   refine vy (y_fa0 rfl underlying145 rfl rfl sizeOf39 rfl) ?_
   refine vy (y_ldo st 1 rfl isAgg39 rfl (app_at (j := 0) hxl)) ?_
   refine vc_e (e_call [_] rfl rfl call105 rfl (level_any _ _ (hg ▸ (hC.k1 st.chg).sig)) ?_)
   rintro _ _ ⟨rfl, rfl⟩
   refine ym ?_
   refine vc_e (e_call [_] rfl rfl call105 rfl (level_any _ _ (hg ▸ (hC.k1 st.chg).sig)) ?_)
   rintro _ _ ⟨rfl, rfl⟩
   refine vy (y_geq rfl rfl) ?_
   refine ypf ?_
   refine ypt ?_
   refine et (vk9 0 1 4 5 6 7 8 9 47 ?_)
   refine vif ?_ ?_
   ·intro hc47
    try simp only [dn] at hc47
    refine kt (vk8 0 1 4 5 6 7 8 9 (vc_block (sr ?_)))
    subst hS
    have st0 := (st.pick [2, 0, 1, 3, 4, 5, 6] rfl (by decide)).split hzSW.1 hPr hRl loc_pd loc_ex
    replace st := st0.pick [2, 3, 0, 1, 4, 5, 6, 7] rfl (by decide)
    iterate 2 refine ym ?_
    refine vy (y_lensl rfl underlying140) ?_
    refine vy (y_sub rfl rfl (by simp : _ = (W2.length : Int)) (by omega) (by omega)) ?_
    refine vy (y_ia0 (k := W2.length) rfl rfl underlying140 sizeOf145 rfl (by simp)) ?_
    refine vy (y_ldoa (vs := pdC (po, pa, pl) ol cl) st 1 rfl isAgg145 sizeOf145 rfl rfl (fun j v hj => (app_at hxl).trans hj)) ?_
    refine vc_e (e_al (l := [_, _, _, _, _, _, _, _]) st rfl rfl zeroValue145 rfl ?_)
    intro b10 w hb10 st
    refine vc_e (ests st 0 [_, _, _, _, _, _, _, _] sizeOf145 ?_)
    intro w st; dsimp only [setNth, wr] at st
    refine et (vk9 0 1 4 5 6 7 8 9 10 (sr ?_))
    iterate 2 refine ym ?_
    refine vy (y_lensl rfl underlying140) ?_
    refine vy (y_sub rfl rfl (by simp : _ = (W2.length : Int)) (by omega) (by omega)) ?_
    refine vy (y_slh (j := W2.length) rfl rfl underlying140 sizeOf145 rfl (by show W2.length ≤ zcW; simp at hcap; omega)) ?_
    refine ya ?_
    refine et (vk9 0 1 4 5 6 7 8 9 10 (vc_region ?_))
    replace st := (st.pick [2, 0, 1, 3, 4, 5, 6, 7, 8] rfl (by decide)).shrink (m := W2.length) (by simp) hxl
    refine vy (y_fa0 rfl underlying145 rfl rfl sizeOf39 rfl) ?_
    refine yl st 1 isAgg39 ?_
    refine yfz 2 underlying145 sizeOf42 ?_
    refine yla st 1 [_, _, _, _, _, _] isAgg42 sizeOf42 ?_
    refine yla st 5 [_, _, _, _, _, _] isAgg42 sizeOf42 ?_
    refine vc_e (e_bsn (l := exC pl ol cl ++ exC zx zox zcx) (E := 42) st [(0, _), (1, _)] rfl rfl rfl (fun w => by simp [Instr.buildSlice, run_underlying underlying40, sizeOf42, zeroValue42, Instr.fill, newRow, newObj, Sem.run, go_sem, Value.cells]) ?_)
    intro b64 w hb64 st
    refine yfz 1 underlying145 sizeOf3 ?_
    refine yl st 2 isAgg3 ?_
    refine vy (ybd (.agg #[_, _, _, _, _, _]) [(0, _), (1, _), (4, _), (5, _)]) ?_
    refine vc_e (ests st 6 [_, _, _, _, _, _] sizeOf42 ?_)
    intro w st; dsimp only [setNth, wr] at st
    refine vc_end (vq_block ?_)
    refine vq_again ⟨W2, binE po pa pl zx, zr, zn, some ⟨gb, 0, none⟩, zcW, xr, Sr, some ⟨b64, 0, none⟩, 2, b64 :: (Sl ++ zSx)⟩  ⟨rfl, rfl, rfl, rfl, rfl, rfl, rfl, rfl, trivial⟩ (by
      have hE := ex_two (st.res (i := 0) rfl) (st.res (i := 5) rfl).1 (st.res (i := 7) rfl).1
      exact (((st.pick [0, 5, 7, 3, 1, 4, 6, 8, 9] rfl (by decide)).joinN 3 (q := .tree (b64 :: (Sl ++ zSx)) fun w => ExR 42 w (some ⟨b64, 0, none⟩) 2 [pl, zx] (b64 :: (Sl ++ zSx))) (fun k hk => by
        rcases List.mem_cons.1 hk with rfl | hk
        · exact ⟨_, .head _, .head _⟩
        · rcases List.mem_append.1 hk with h | h
          · exact ⟨_, .tail _ (.head _), h⟩
          · exact ⟨_, .tail _ (.tail _ (.head _)), h⟩) (holds_ex hE))).pick [1, 2, 3, 4, 0, 5, 6] rfl (by decide)) ?_ ?_
    ·have hrd : redu (!isop) (lvlO (((findO (here r1).text).getD 0 : Nat) : Int)) ((po, pa, pl) :: W2) zx = redu (!isop) (lvlO (((findO (here r1).text).getD 0 : Nat) : Int)) W2 (binE po pa pl zx) := by
      simp only [redu]
      rw [if_pos (.inr hc47)]
     refine ⟨by simp at hzl; dsimp only; omega, hzSW.left, ?_, hzr.trans hrd⟩
     refine Nw.app (S := [b64]) ⟨by simp, by simpa using hb64⟩ (hzSW.right.app hzSx (st.ne (i := 5) (j := 7) (by decide) rfl rfl)) (fun b hb hb' => ?_)
     rcases List.mem_append.1 hb' with h | h
     ·exact st.ne (i := 0) (j := 5) (by decide) rfl rfl b hb h
     ·exact st.ne (i := 0) (j := 7) (by decide) rfl rfl b hb h
    ·simp
   intro hc47
   try simp only [dn] at hc47
   refine vc_exit (vq_then_exit (vq_then_exit (vq_block_exit ?_)))
   refine vq_meet ⟨(po, pa, pl) :: W2, zx, zr, zn, some ⟨gb, 0, none⟩, zcW, xr ++ pdC (po, pa, pl) ol cl, zSW, zox, zcx, zSx⟩ ⟨rfl, rfl, rfl, rfl, rfl, rfl, rfl, rfl, trivial⟩ st ?_
   ·exact ⟨hzl, hzSW, hzSx, hzr.trans (by simp only [redu]; rw [if_neg (by rw [hg34]; simp; omega)]), fun h => by rw [h] at hg34; cases hg34⟩
  intro hg31
  try simp only [dn] at hg31
  iterate 15 refine vsk ?_
  refine ypf ?_
  refine et (vk9 0 1 4 5 6 7 8 9 47 ?_)
  refine vc_iff rfl ?_
  refine vc_exit (vq_then_exit (vq_then_exit (vq_block_exit ?_)))
  refine vq_meet ⟨zW, zx, zr, zn, zow, zcW, zxs, zSW, zox, zcx, zSx⟩ ⟨rfl, rfl, rfl, rfl, rfl, rfl, rfl, rfl, trivial⟩ st ?_
  ·obtain rfl : zW = [] := List.eq_nil_of_length_eq_zero (by omega)
   exact ⟨hzl, hzSW, hzSx, hzr, fun _ => rfl⟩
 clear st
 rintro ⟨zW, zx, zr, zn, zow, zcW, zxs, zSW, zox, zcx, zSx⟩ w ⟨hzl, hzSW, hzSx, hzr, hz0⟩ st
 dsimp only at hzl hzSW hzSx hzr hz0 st
 refine vc_seq (sr ?_)
 refine ym ?_
 refine vy (y_not rfl) ?_
 refine et (vk8 0 1 4 5 6 7 8 69 ?_)
 refine vif ?_ ?_
 ·intro hc69
  try simp only [dn] at hc69
  have hif : isop = false := by simpa using hc69
  have hno : opT (here r1) = none := by
   rw [hif] at hop
   cases hq : opT (here r1) with
   | none => rfl
   | some o => rw [hq] at hop; cases hop
  obtain rfl := hz0 hif
  rw [hif] at hzr
  simp only [Bool.not_false] at hzr
  replace hs := hs.trans (contE_stop hno hzr)
  refine sr ?_
  refine yla st 3 [_, _, _, _, _, _] isAgg42 sizeOf42 ?_
  refine vc_e (ests st 5 [_, _, _, _, _, _] sizeOf42 ?_)
  intro w st; dsimp only [setNth, wr] at st
  refine et (vk1 4 (vc_ret (vq_then_ret (vq_block_ret (vq_then_ret (vq_block_ret ?_))))))
  refine vq_ret1 st (.inl rfl) results49 (by exact .cell 5 rfl rfl isAgg42 sizeOf42) ?_
  refine .inl ⟨_, rfl, ?_⟩
  exact ⟨zx, r1, hs, hsf1, hlt1, (by exact st.rs 6), st.chg, zox, zcx, zSx, rfl, (st.res (i := 4) rfl).1, hzSx⟩
 intro hc69
 try simp only [dn] at hc69
 have hit : isop = true := by simpa using hc69
 obtain ⟨op, hop1⟩ : ∃ op, opT (here r1) = some op := by
  rw [hit] at hop
  cases hq : opT (here r1) with
  | none => rw [hq] at hop; cases hop
  | some o => exact ⟨o, rfl⟩
 have hfo : findO (here r1).text = some op := by
  unfold opT at hop1; split at hop1
  ·exact hop1
  ·cases hop1
 rw [hit, hfo] at hzr
 simp only [Bool.not_true, Option.getD_some] at hzr
 replace hs := hs.trans (contE_step hop1 hzr)
 have hne1 := opT_ne hop1
 have htl1 := tail_lt hne1
 refine kt (vk7 0 1 4 5 6 7 8 (sr ?_))
 refine ym ?_
 refine vc_e (e_call [_] rfl rfl call111 rfl (pnext_any c r1 hr1 hne1 _ (hC.k1 st.chg) (by exact st.rs 6)) ?_)
 rintro _ w ⟨rfl, hP1, cw⟩
 replace st := St.prs (b := c.pb) st 6 rfl cw (.inl (.head _)) hP1
 dsimp only [setNth] at st
 refine et (vk7 0 1 4 5 6 7 8 (sr ?_))
 iterate 2 refine ym ?_
 refine yfz 3 underlying118 sizeOf3 ?_
 refine yl st 0 isAgg3 ?_
 refine yla st 3 [_, _, _, _, _, _] isAgg42 sizeOf42 ?_
 refine vy (ybd (.agg #[_, _, _, _, _, _, _, _]) [(0, _), (1, _), (2, _)]) ?_
 refine vc_e (e_bs1 (l := [_, _, _, _, _, _, _, _]) st rfl rfl rfl rfl underlying140 sizeOf145 rfl rfl rfl zeroValue145 ?_)
 intro b79 w hb79 st
 refine vc_e (e_app (bytes := 80) st 2 0 rfl rfl rfl rfl rfl rfl underlying140 Tryz.info145 rfl rfl rfl rfl rfl (by simp) rfl rfl (by unfold maxLen; omega) (by omega) ?_)
 intro oaQ capQ w st; dsimp only [setNth] at st
 refine ya ?_
 refine et (vk5 0 1 4 5 6 (vc_region ?_))
 rw [hfo] at st
 dsimp only [Option.getD_some] at st
 have hT' : PdSs 42 w ((op, (here r1).at_, zx) :: zW) (zxs ++ pdC (op, (here r1).at_, zx) zox zcx) (zSW ++ zSx) := ⟨zox, zcx, zSx, zxs, zSW, rfl, rfl, (st.res (i := 5) rfl).1, (st.res (i := 3) rfl).1⟩
 have hSW' := hzSW.app hzSx (st.ne (i := 3) (j := 5) (by decide) rfl rfl)
 replace st := ((st.pick [3, 5, 2, 4, 6, 7] rfl (by decide)).join (q := .tree (zSW ++ zSx) (fun w => PdSs 42 w ((op, (here r1).at_, zx) :: zW) (zxs ++ pdC (op, (here r1).at_, zx) zox zcx) (zSW ++ zSx))) (fun k hk => List.mem_append.1 hk) (holds_pd hT'))
 iterate 2 refine ym ?_
 refine vc_e (e_callp [_, _] rfl rfl call108 rfl (hU r1.tail (suf_tail hr1) _ (hC.k1 st.chg) (by exact st.rs 4)) (by rintro _ w' ⟨f, hf, rfl, ch⟩ a ha; exact And.intro ha (Or.inr ⟨_, rfl, f, by rw [hs, hf], rfl, st.chg.trans ch⟩)) ?_)
 rintro _ w ⟨x2, r2, hx, hsfr2, hlnr2, hP1, cw, oy, cy, Sy, rfl, hQ, hN⟩
 have hNSy := hN.le st.chg.size
 replace st := St.prsT (b := c.pb) st 4 rfl cw (.inl (.head _)) hP1 (holds_ex hQ) hN.2
 dsimp only [setNth] at st
 rw [hx] at hs; dsimp only at hs
 refine vc_e (ests st 3 [_, _, _, _, _, _] sizeOf42 ?_)
 intro w st; dsimp only [setNth, wr] at st
 refine vc_end (vq_block ?_)
 refine vq_again ⟨(op, (here r1).at_, zx) :: zW, x2, r2, n, oaQ, capQ, zxs ++ pdC (op, (here r1).at_, zx) zox zcx, zSW ++ zSx, oy, cy, Sy⟩  ⟨rfl, rfl, rfl, rfl, rfl, trivial⟩ (st.pick [2, 1, 3, 0, 4, 5] rfl (by decide)) ?_ ?_
 ·exact ⟨(hsfr2.trans (List.tail_suffix _)).trans hsf1, by dsimp only; omega, by simp only [List.length_cons]; omega, by dsimp only; omega, hSW', hNSy, hs⟩
 dsimp only; omega
end Go.Proofs.YtnmhlpnapgojjaaGreatDoor.Pq


namespace Go.Proofs.YtnmhlpnapgojjaaGreatDoor.Pq
open Go.RowKit Sx LexS ParS _root_.Go.Proofs.Tryz
theorem inner_kind {r : List Tok} (h : innerT r = true) : (here r).kind = 2 ∨ (here r).kind = 4 := by
 unfold innerT isT at h
 simp only [Bool.or_eq_true, Bool.and_eq_true, decide_eq_true_eq] at h
 rcases h with (h | h) | h <;> exact h.2
theorem unary_out {e m : Nat} {r : List Tok} (h : innerT r = false) : unaryP e m r = leafP e r := by
 cases m with
 | zero => simp only [unaryP]; rw [if_neg (by simp [h])]
 | succ m => simp only [unaryP]; rw [if_neg (by simp [h])]
theorem unary_deep {e : Nat} {r : List Tok} (h : innerT r = true) : unaryP e 0 r = fail e 3 r := by simp only [unaryP]; rw [if_pos h]
theorem unary_par {e m : Nat} {r : List Tok} (h : innerT r = true) (h2 : (here r).text = [40]) : unaryP e (m + 1) r = match exprW (unaryP e m) r.tail with
  | .error f => .error f
  | .ok (x, r1) => match want e [41] r1 with
   | .error f => .error f
   | .ok r2 => .ok (x, r2) := by
 simp only [unaryP]; rw [if_pos h, if_pos h2]; rfl
theorem unary_op {e m : Nat} {r : List Tok} (h : innerT r = true) (h2 : ¬ (here r).text = [40]) : unaryP e (m + 1) r = match unaryP e m r.tail with
  | .error f => .error f
  | .ok (x, r1) => .ok (.mk 3 (if (here r).text = [33] then 18 else 17) 0 [] [x] ((here r).at_ : Int), r1) := by
 simp only [unaryP]; rw [if_pos h, if_neg h2]; rfl
set_option maxHeartbeats 1000000 in
theorem punary_of (c : PCtx) (hR : c.R = 75) (d m : Nat) (hd : d + m = 64) (hE : ∀ k, m = k + 1 → DRead 49 c (d + 1) (exprW (unaryP c.e k))) (hU : ∀ k, m = k + 1 → DRead 108 c (d + 1) (unaryP c.e k)) : DRead 108 c d (unaryP c.e m) := by
 intro r hr w hC hP
 refine retp_of [_, _] func108 rfl ntmps108 rfl ?_
 obtain ⟨w0, rfl⟩ : ∃ w0, w0 = w := ⟨_, rfl⟩
 have hP' := hP
 dsimp only [PAt, pcell] at hP
 have st := St.of1 [c.pb] hP
 have h20 := hC.len
 have hl := suf_len hr
 refine sr ?_
 refine vc_e (e_al (l := [_, _, _, _, _, _]) st rfl rfl zeroValue42 rfl ?_)
 intro b4 w hb4 st
 refine et (vk3 0 1 4 (sr ?_))
 refine ym ?_
 refine vc_e (e_call [_] rfl rfl call109 rfl (phere_any c r hr _ (hC.k1 st.chg) (by exact st.rs 1)) ?_)
 rintro _ w ⟨rfl, cw⟩
 replace st := st.call0 cw
 refine vc_e (e_al (l := [_, _, _, _]) st rfl rfl zeroValue118 rfl ?_)
 intro b5 w hb5 st
 refine vc_e (ests st 0 [_, _, _, _] sizeOf118 ?_)
 intro w st; dsimp only [setNth, wr] at st
 refine et (vk4 0 1 4 5 ?_)
 refine vc_cut (w0 := w0) (M := [c.pb]) (fun (b : Bool) => [(0, .pointer (some ⟨c.pb, 0, none⟩)), (1, .int .i64 (d : Int)), (4, .pointer (some ⟨b4, 0, none⟩)), (5, .pointer (some ⟨b5, 0, none⟩)), (6, .bool b)]) (fun _ => [.blk b5 (.cells (tkL (here r)).toArray 118 (0, 0)), .blk b4 (.cells ex00.toArray 42 (0, 0)), .blk c.pb (.cells (pcell c r).toArray c.T (0, 0))]) (fun b _ => b = innerT r) ?_ ?_
 ·refine vc_region ?_
  refine ym ?_
  refine vc_e (e_call [_, _] rfl rfl call90 rfl (pis_any c [45] r hr _ (hC.k1 st.chg) (by exact st.rs 2)) ?_)
  rintro _ w ⟨rfl, cw⟩
  replace st := st.call0 cw
  refine vmb ?_ ?_
  ·intro hg13
   try simp only [dn] at hg13
   iterate 2 refine vsk ?_
   refine ypt ?_
   refine ym ?_
   iterate 2 refine vsk ?_
   refine ypt ?_
   refine ya ?_
   refine vc_end ?_
   refine vq_meet true ⟨rfl, rfl, rfl, rfl, rfl, trivial⟩ st ?_
   ·show true = _
    unfold innerT; rw [hg13]; rfl
  intro hg13
  try simp only [dn] at hg13
  refine ym ?_
  refine vc_e (e_call [_, _] rfl rfl call90 rfl (pis_any c [33] r hr _ (hC.k1 st.chg) (by exact st.rs 2)) ?_)
  rintro _ w ⟨rfl, cw⟩
  replace st := st.call0 cw
  refine ypf ?_
  refine vmb ?_ ?_
  ·intro hg17
   try simp only [dn] at hg17
   iterate 2 refine vsk ?_
   refine ypt ?_
   refine ya ?_
   refine vc_end ?_
   refine vq_meet true ⟨rfl, rfl, rfl, rfl, rfl, trivial⟩ st ?_
   ·show true = _
    unfold innerT; rw [hg17]; simp
  intro hg17
  try simp only [dn] at hg17
  refine ym ?_
  refine vc_e (e_call [_, _] rfl rfl call90 rfl (pis_any c [40] r hr _ (hC.k1 st.chg) (by exact st.rs 2)) ?_)
  rintro _ w ⟨rfl, cw⟩
  replace st := st.call0 cw
  refine ypf ?_
  refine ya ?_
  refine vc_end ?_
  refine vq_meet (isT [40] r) ⟨rfl, rfl, rfl, rfl, rfl, trivial⟩ st ?_
  ·show isT [40] r = _
   unfold innerT; rw [hg13, hg17]; rfl
 clear st
 rintro inn w hin st
 refine vc_seq (vc_block (sr ?_))
 refine ym ?_
 refine vmb ?_ ?_
 ·intro hg23
  try simp only [dn] at hg23
  subst hg23
  refine ym ?_
  refine vy (y_eqi rfl rfl) ?_
  refine ypt ?_
  refine ya ?_
  refine et (vk6 0 1 4 5 6 21 ?_)
  refine vif ?_ ?_
  ·intro hc21
   try simp only [dn] at hc21
   have hd64 : d = 64 := by omega
   obtain rfl : m = 0 := by omega
   have hs := unary_deep (e := c.e) hin.symm
   refine vc_region ?_
   refine ym ?_
   refine vc_e (e_callp [_, _] rfl rfl call50 rfl (pfail_any c 3 r hr _ (hC.k1 st.chg) (by exact st.rs 2) hR) (by rintro _ w' ⟨rfl, ch⟩ a ha; exact And.intro ha (Or.inr ⟨_, rfl, (atT c.e r, 3), by rw [hs]; rfl, rfl, st.chg.trans ch.of_nil⟩)) (fun _ _ h => h.elim))
  intro hc21
  try simp only [dn] at hc21
  have hd64 : ¬ d = 64 := by omega
  obtain ⟨m, rfl⟩ : ∃ k, m = k + 1 := ⟨m - 1, by omega⟩
  refine sr ?_
  refine vy (y_fa0 rfl underlying118 rfl rfl sizeOf116 rfl) ?_
  refine yl st 0 isAgg116 ?_
  refine vy (y_eqi rfl rfl) ?_
  refine ya ?_
  refine et (vk6 0 1 4 5 6 29 ?_)
  refine vif ?_ ?_
  ·intro hc29
   exfalso; have := inner_kind hin.symm; revert hc29; simp; omega
  intro hc29
  try simp only [dn] at hc29
  refine sr ?_
  refine vy (y_fa0 rfl underlying118 rfl rfl sizeOf116 rfl) ?_
  refine yl st 0 isAgg116 ?_
  refine vy (y_eqi rfl rfl) ?_
  refine ya ?_
  refine et (vk6 0 1 4 5 6 40 ?_)
  refine vif ?_ ?_
  ·intro hc40
   exfalso; have := inner_kind hin.symm; revert hc40; simp; omega
  intro hc40
  try simp only [dn] at hc40
  refine sr ?_
  refine ym ?_
  refine vy (y_not rfl) ?_
  refine ya ?_
  refine et (vk5 0 1 4 5 51 ?_)
  refine vif ?_ ?_
  ·intro hc51
   exfalso; revert hc51; simp
  intro hc51
  try simp only [dn] at hc51
  refine vc_code_skip (vq_block (vq_then (vk4 0 1 4 5 (sr ?_))))
  refine ym ?_
  refine vc_e (e_call [_] rfl rfl call111 rfl (pnext_any c r hr (inner_ne hin.symm) _ (hC.k1 st.chg) (by exact st.rs 2)) ?_)
  rintro _ w ⟨rfl, hP1, cw⟩
  replace st := St.prs (b := c.pb) st 2 rfl cw (.inl (.head _)) hP1
  dsimp only [setNth] at st
  refine et (vk4 0 1 4 5 (vc_seq (sr ?_)))
  refine yfz 1 underlying118 sizeOf9 ?_
  refine yl st 0 isAgg9 ?_
  refine vy (y_eqs rfl rfl) ?_
  refine et (vk5 0 1 4 5 60 ?_)
  refine vif ?_ ?_
  ·intro hc60
   try simp only [dn] at hc60
   have hs := unary_par (e := c.e) (m := m) hin.symm hc60
   have hne := inner_ne hin.symm
   have hlt := tail_lt hne
   have hr1 := suf_tail hr
   refine sr ?_
   iterate 2 refine ym ?_
   refine vy (y_add rfl rfl (by omega : _ = ((d + 1 : Nat) : Int)) (by omega) (by omega)) ?_
   refine vc_e (e_callp [_, _] rfl rfl call49 rfl (hE m rfl r.tail hr1 _ (hC.k1 st.chg) (by exact st.rs 2)) (by rintro _ w' ⟨f, hf, rfl, ch⟩ a ha; exact And.intro ha (Or.inr ⟨_, rfl, f, by rw [hs, hf], rfl, st.chg.trans ch⟩)) ?_)
   rintro _ w ⟨x, r2, hx, hsfr2, hlnr2, hP1, cw, ox, cx, Sx, rfl, hQ, hN⟩
   have hNSx := hN.le st.chg.size
   replace st := St.prsT (b := c.pb) st 2 rfl cw (.inl (.head _)) hP1 (holds_ex hQ) hN.2
   dsimp only [setNth] at st
   rw [hx] at hs; dsimp only at hs
   refine vc_e (e_al (l := [_, _, _, _, _, _]) st rfl rfl zeroValue42 rfl ?_)
   intro b7 w hb7 st
   refine vc_e (ests st 0 [_, _, _, _, _, _] sizeOf42 ?_)
   intro w st; dsimp only [setNth, wr] at st
   refine et (vk3 0 4 7 (sr ?_))
   refine ym ?_
   refine vc_e (e_bs1 (l := [_]) st rfl rfl rfl rfl underlying50 sizeOf9 rfl rfl rfl zeroValue9 ?_)
   intro b66 w hb66 st
   refine vc_e (e_callp [_, _] rfl rfl call145 rfl (pwant_any c [[41]] (by simp) _ _ _ _ rfl r2 (hsfr2.trans hr1) _ (hC.k1 st.chg) (by exact st.rs 5) hR (st.res (i := 0) rfl) (by exact st.bne 0 5 (by decide) rfl rfl)) (by rintro _ w' ⟨f, hf, rfl, ch⟩ a ha; rw [wantL_one] at hf; exact And.intro ha (Or.inr ⟨_, rfl, f, by rw [hs, hf], rfl, st.chg.trans ch⟩)) ?_)
   rintro _ w ⟨r3, hx, hsfr3, hlnr3, hP1, cw⟩
   rw [wantL_one] at hx
   rw [hx] at hs; dsimp only at hs
   replace st := St.prs (b := c.pb) st 5 rfl cw (.inl (.head _)) hP1
   dsimp only [setNth] at st
   have hr3 := hsfr3.trans (hsfr2.trans hr1)
   refine et (vk2 4 7 (sr ?_))
   refine yla st 1 [_, _, _, _, _, _] isAgg42 sizeOf42 ?_
   refine vc_e (ests st 4 [_, _, _, _, _, _] sizeOf42 ?_)
   intro w st; dsimp only [setNth, wr] at st
   refine et (vk1 4 (vc_ret (vq_then_ret ?_)))
   refine vq_ret1 st (.inl rfl) results108 (by exact .cell 4 rfl rfl isAgg42 sizeOf42) ?_
   refine .inl ⟨_, rfl, ?_⟩
   exact ⟨x, r3, hs, (hsfr3.trans hsfr2).trans (List.tail_suffix _), by simp at hlnr3; omega, (by exact st.rs 5), st.chg, ox, cx, Sx, rfl, (by exact (st.res (i := 2) rfl).1), hNSx⟩
  intro hc60
  try simp only [dn] at hc60
  have hs := unary_op (e := c.e) (m := m) hin.symm hc60
  have hne := inner_ne hin.symm
  have hlt := tail_lt hne
  have hr1 := suf_tail hr
  refine kt (vk4 0 1 4 5 (sr ?_))
  refine ya ?_
  refine et (vk5 0 1 4 5 8 (vc_seq (sr ?_)))
  refine yfz 1 underlying118 sizeOf9 ?_
  refine yl st 0 isAgg9 ?_
  refine vy (y_eqs rfl rfl) ?_
  refine et (vk6 0 1 4 5 8 71 ?_)
  refine vif ?_ ?_
  intro hc71
  try simp only [dn] at hc71
  rw [if_pos hc71] at hs
  refine vc_region ?_
  refine ya ?_
  refine vc_end ?_
  rotate_left
  intro hc71
  try simp only [dn] at hc71
  rw [if_neg hc71] at hs
  refine vc_code_skip ?_
  all_goals
   refine vq_then (vk5 0 1 4 5 8 (vc_seq ?_))
   refine vdr Tryz.mixed [Yt 0, Yt 1, Yt 2, Yt 3, Yt 6, Yt 7, Nt 4, Nt 5, Yt 8, Nt 9] [.blk b5 (.cells (tkL (here r)).toArray 118 (0, 0))] st ?_
   clear st; intro w st hS
   iterate 3 refine pm hS ?_
   refine vp_take rfl rfl rfl hS (fun w st => y_add rfl rfl (by omega : _ = ((d + 1 : Nat) : Int)) (by omega) (by omega)) ?_
   refine pfz hS 3 underlying118 sizeOf3 ?_
   refine pld hS 0 isAgg3 ?_
   refine vp_do rfl (e_callp [_, _] rfl rfl call108 rfl (hU m rfl r.tail hr1 _ (hC.k1 st.chg) (by exact st.rs 2)) (by rintro _ w' ⟨f, hf, rfl, ch⟩ a ha; exact And.intro ha (Or.inr ⟨_, rfl, f, by rw [hs, hf], rfl, st.chg.trans ch⟩)) ?_)
   rintro _ w ⟨x, r2, hx, hsfr2, hlnr2, hP1, cw, ox, cx, Sx, rfl, hQ, hN⟩
   have hNSx := hN.le st.chg.size
   replace st := St.prsT (b := c.pb) st 2 rfl cw (.inl (.head _)) hP1 (holds_ex hQ) hN.2
   dsimp only [setNth] at st
   rw [hx] at hs; dsimp only at hs
   refine vp_next st.dr ?_; intro hS
   refine vp_do rfl (e_bs1 (l := [_, _, _, _, _, _]) st rfl rfl rfl rfl underlying40 sizeOf42 rfl rfl rfl zeroValue42 ?_)
   intro b77 w hb77 st
   refine vp_next st.dr ?_; intro hS
   refine vp_take rfl rfl rfl hS (fun w st => ybd (.agg #[_, _, _, _, _, _]) [(0, _), (1, _), (4, _), (5, _)]) ?_
   refine vp_do rfl (ests st 3 [_, _, _, _, _, _] sizeOf42 ?_)
   intro w st; dsimp only [setNth, wr] at st
   refine vp_next st.dr ?_; intro hS
   refine vp_end (vq_then (vk1 4 (vc_ret ?_)))
   refine vq_ret1 st (.inl rfl) results108 (by exact .cell 3 rfl rfl isAgg42 sizeOf42) ?_
   refine .inl ⟨_, rfl, ?_⟩
   exact ⟨_, _, hs, hsfr2.trans (List.tail_suffix _), by omega, (by exact st.rs 4), st.chg, some ⟨b77, 0, none⟩, 1, b77 :: Sx, rfl, ex_one (st.res (i := 0) rfl) (st.res (i := 1) rfl).1, Nw.app (S := [b77]) ⟨by simp, by simpa using hb77⟩ hNSx (fun b hb hb' => st.ne (i := 0) (j := 1) (by decide) rfl rfl b hb hb')⟩
 intro hg23
 try simp only [dn] at hg23
 subst hg23
 iterate 2 refine vsk ?_
 refine ypf ?_
 refine ya ?_
 refine et (vk6 0 1 4 5 6 21 ?_)
 refine vc_iff rfl ?_
 refine sr ?_
 refine vy (y_fa0 rfl underlying118 rfl rfl sizeOf116 rfl) ?_
 refine yl st 0 isAgg116 ?_
 refine vy (y_eqi rfl rfl) ?_
 refine ya ?_
 refine et (vk6 0 1 4 5 6 29 ?_)
 refine vif ?_ ?_
 ·intro hc29
  try simp only [dn] at hc29
  have hk : (here r).kind = 3 := by omega
  have hne := kind_ne hk (by decide)
  have hs := (unary_out (e := c.e) (m := m) hin.symm).trans (by unfold leafP; rw [if_pos hk])
  refine sr ?_
  refine ym ?_
  refine vc_e (e_call [_] rfl rfl call111 rfl (pnext_any c r hr hne _ (hC.k1 st.chg) (by exact st.rs 2)) ?_)
  rintro _ w ⟨rfl, hP1, cw⟩
  replace st := St.prs (b := c.pb) st 2 rfl cw (.inl (.head _)) hP1
  dsimp only [setNth] at st
  refine et (vk2 4 5 (sr ?_))
  refine yfz 2 underlying118 sizeOf2 ?_
  refine yl st 0 isAgg2 ?_
  refine yfz 3 underlying118 sizeOf3 ?_
  refine yl st 0 isAgg3 ?_
  refine vy (ybd (.agg #[_, _, _, _, _, _]) [(0, _), (2, _), (5, _)]) ?_
  refine vc_e (ests st 1 [_, _, _, _, _, _] sizeOf42 ?_)
  intro w st; dsimp only [setNth, wr] at st
  refine et (vk1 4 (vc_ret (vq_block_ret (vq_then_ret ?_))))
  refine vq_ret1 st (.inl rfl) results108 (by exact .cell 1 rfl rfl isAgg42 sizeOf42) ?_
  refine .inl ⟨_, rfl, ?_⟩
  exact ⟨_, _, hs, List.tail_suffix _, tail_lt hne, (by exact st.rs 2), st.chg, none, 0, [], rfl, ⟨[], [], World.ownsRow_nil _ _ _ _, rfl, rfl, rfl⟩, Nw.nil⟩
 intro hc29
 try simp only [dn] at hc29
 refine sr ?_
 refine vy (y_fa0 rfl underlying118 rfl rfl sizeOf116 rfl) ?_
 refine yl st 0 isAgg116 ?_
 refine vy (y_eqi rfl rfl) ?_
 refine ya ?_
 refine et (vk6 0 1 4 5 6 40 ?_)
 refine vif ?_ ?_
 ·intro hc40
  try simp only [dn] at hc40
  have hk : (here r).kind = 1 := by omega
  have hne := kind_ne hk (by decide)
  have hs := (unary_out (e := c.e) (m := m) hin.symm).trans (by unfold leafP; rw [if_neg (by omega), if_pos hk])
  refine sr ?_
  refine ym ?_
  refine vc_e (e_call [_] rfl rfl call111 rfl (pnext_any c r hr hne _ (hC.k1 st.chg) (by exact st.rs 2)) ?_)
  rintro _ w ⟨rfl, hP1, cw⟩
  replace st := St.prs (b := c.pb) st 2 rfl cw (.inl (.head _)) hP1
  dsimp only [setNth] at st
  refine et (vk2 4 5 (sr ?_))
  refine yfz 1 underlying118 sizeOf9 ?_
  refine yl st 0 isAgg9 ?_
  refine yfz 3 underlying118 sizeOf3 ?_
  refine yl st 0 isAgg3 ?_
  refine vy (ybd (.agg #[_, _, _, _, _, _]) [(0, _), (3, _), (5, _)]) ?_
  refine vc_e (ests st 1 [_, _, _, _, _, _] sizeOf42 ?_)
  intro w st; dsimp only [setNth, wr] at st
  refine et (vk1 4 (vc_ret (vq_block_ret (vq_then_ret ?_))))
  refine vq_ret1 st (.inl rfl) results108 (by exact .cell 1 rfl rfl isAgg42 sizeOf42) ?_
  refine .inl ⟨_, rfl, ?_⟩
  exact ⟨_, _, hs, List.tail_suffix _, tail_lt hne, (by exact st.rs 2), st.chg, none, 0, [], rfl, ⟨[], [], World.ownsRow_nil _ _ _ _, rfl, rfl, rfl⟩, Nw.nil⟩
 intro hc40
 try simp only [dn] at hc40
 refine sr ?_
 refine ym ?_
 refine vy (y_not rfl) ?_
 refine ya ?_
 refine et (vk5 0 1 4 5 51 ?_)
 refine vif ?_ ?_
 ·intro hc51
  try simp only [dn] at hc51
  have hs := (unary_out (e := c.e) (m := m) hin.symm).trans (show leafP c.e r = fail c.e 2 r by unfold leafP; rw [if_neg (by omega), if_neg (by omega)])
  refine vc_region ?_
  refine ym ?_
  refine vc_e (e_callp [_, _] rfl rfl call50 rfl (pfail_any c 2 r hr _ (hC.k1 st.chg) (by exact st.rs 2) hR) (by rintro _ w' ⟨rfl, ch⟩ a ha; exact And.intro ha (Or.inr ⟨_, rfl, (atT c.e r, 2), by rw [hs]; rfl, rfl, st.chg.trans ch.of_nil⟩)) (fun _ _ h => h.elim))
 intro hc51
 exfalso; revert hc51; simp
end Go.Proofs.YtnmhlpnapgojjaaGreatDoor.Pq


/- A parser's statements. -/
namespace Sx
open Go Go.RowKit LexS ParS
abbrev sm00 (a : Int) : List Value := [.int .u8 0, str [], str [], .slice none 0 0, .slice none 0 0, .slice none 0 0, .int .i64 a]
def choiceP (e : Nat) (blk : List Tok → PR (List Sm)) (a : Nat) (r0 : List Tok) : PR Sm := match condP e r0 with
  | .error f => .error f
  | .ok (x, r) => match blk r with
    | .error f => .error f
    | .ok (b, r1) => if isT wElse r1 = true then (match blk r1.tail with
        | .error f => .error f
        | .ok (l, r2) => .ok (.mk 3 [] [] [x] b l (a : Int), r2))
      else .ok (.mk 3 [] [] [x] b [] (a : Int), r1)
def loopP (e : Nat) (blk : List Tok → PR (List Sm)) (a : Nat) (r0 : List Tok) : PR Sm := match condP e r0 with
  | .error f => .error f
  | .ok (x, r) => match blk r with
    | .error f => .error f
    | .ok (b, r1) => .ok (.mk 4 [] [] [x] b [] (a : Int), r1)
def guardP (e : Nat) (blk : List Tok → PR (List Sm)) (a : Nat) (r0 : List Tok) : PR Sm := match nameP e r0 with
  | .error f => .error f
  | .ok (t, r) => match blk r with
    | .error f => .error f
    | .ok (b, r1) => .ok (.mk 5 t.text [] [] b [] (a : Int), r1)
def printP (e : Nat) (a : Nat) (r0 : List Tok) : PR Sm := match exprP e 64 r0 with
  | .error f => .error f
  | .ok (x, r) => match want e [59] r with
    | .error f => .error f
    | .ok r' => .ok (.mk 6 [] [] [x] [] [] (a : Int), r')
def skipP (e : Nat) (a : Nat) (r0 : List Tok) : PR Sm := match want e [59] r0 with
  | .error f => .error f
  | .ok r => .ok (.mk 7 [] [] [] [] [] (a : Int), r)
theorem stmtW_eq (e : Nat) (blk : List Tok → PR (List Sm)) (ts : List Tok) : stmtW e blk ts =
    if formT (here ts) wIf = true then choiceP e blk (atT e ts) ts.tail
    else if formT (here ts) wWhile = true then loopP e blk (atT e ts) ts.tail
    else if formT (here ts) wLock = true then guardP e blk (atT e ts) ts.tail
    else if formT (here ts) wPrint = true then printP e (atT e ts) ts.tail
    else if formT (here ts) wSkip = true then skipP e (atT e ts) ts.tail
    else assignP e (atT e ts) ts := by
  unfold stmtW choiceP loopP guardP printP skipP
  have hx : ∀ r, exprSemi e r = match exprP e 64 r with
      | .error f => .error f
      | .ok (x, r) => match want e [59] r with
        | .error f => .error f
        | .ok r' => .ok (x, r') := fun r => rfl
  split
  · rfl
  · split
    · rfl
    · split
      · rfl
      · split
        · rw [hx]
          cases exprP e 64 ts.tail with
          | error f => rfl
          | ok p =>
            simp only
            cases want e [59] p.2 <;> rfl
        · split <;> rfl
/-- the pieces of an assignment -/
theorem assignP_eq (e a : Nat) (ts : List Tok) : assignP e a ts = match nameP e ts with
    | .error f => .error f
    | .ok (t, r) => match want e [61] r with
      | .error f => .error f
      | .ok r1 => if isT wSwap r1 = true then (match want e [40] r1.tail with
          | .error f => .error f
          | .ok r2 => match nameP e r2 with
            | .error f => .error f
            | .ok (o, r3) => match want e [44] r3 with
              | .error f => .error f
              | .ok r4 => match exprP e 64 r4 with
                | .error f => .error f
                | .ok (x, r5) => match wantL e [[41], [59]] r5 with
                  | .error f => .error f
                  | .ok r6 => .ok (.mk 2 t.text o.text [x] [] [] (a : Int), r6))
        else match exprP e 64 r1 with
          | .error f => .error f
          | .ok (x, r2) => match want e [59] r2 with
            | .error f => .error f
            | .ok r3 => .ok (.mk 1 t.text [] [x] [] [] (a : Int), r3) := by
  unfold assignP swapP exprSemi
  cases nameP e ts with
  | error f => rfl
  | ok p =>
    simp only
    cases want e [61] p.2 with
    | error f => rfl
    | ok r1 =>
      simp only
      split
      · cases want e [40] r1.tail with
        | error f => rfl
        | ok r2 =>
          simp only
          cases nameP e r2 with
          | error f => rfl
          | ok q =>
            simp only
            cases want e [44] q.2 with
            | error f => rfl
            | ok r4 =>
              simp only
              cases exprP e 64 r4 with
              | error f => rfl
              | ok y =>
                simp only [wantL]
                cases want e [41] y.2 with
                | error f => rfl
                | ok r5 =>
                  simp only
                  cases want e [59] r5 <;> rfl
      · cases exprP e 64 r1 with
        | error f => rfl
        | ok y =>
          simp only
          cases want e [59] y.2 <;> rfl
/-- a block's reader; 'm': how much deeper blocks may lie -/
def blkP (e : Nat) : Nat → List Tok → PR (List Sm)
  | 0, r => if isT [123] r = true then fail e 3 r else fail e 2 r
  | m + 1, r => match want e [123] r with
    | .error f => .error f
    | .ok r1 => restW (stmtP e m) (r1.length + 1) r1
theorem stmtP_blk (e m : Nat) : stmtP e m = stmtW e (blkP e m) := by
  cases m with
  | zero => funext ts; rw [stmtP]; rfl
  | succ m => funext ts; rw [stmtP]; rfl
/-- statements, so many having come -/
def contS (st : List Tok → PR Sm) (n : Nat) (acc : List Sm) (r : List Tok) : PR (List Sm) := match restW st n r with
  | .error f => .error f
  | .ok (l, r') => .ok (acc ++ l, r')
theorem contS_nil (st : List Tok → PR Sm) (n : Nat) (r : List Tok) : restW st n r = contS st n [] r := by unfold contS; cases restW st n r with | error f => rfl | ok p => rfl
theorem contS_end {st : List Tok → PR Sm} {n : Nat} {acc : List Sm} {r : List Tok} (h : isT [125] r = true) : contS st (n + 1) acc r = .ok (acc, r.tail) := by simp only [contS, restW, if_pos h, List.append_nil]
theorem contS_step {st : List Tok → PR Sm} {n : Nat} {acc : List Sm} {r : List Tok} (h : isT [125] r = false) : contS st (n + 1) acc r = match st r with
    | .error f => .error f
    | .ok (s, r') => contS st n (acc ++ [s]) r' := by
  simp only [contS, restW, if_neg (show ¬ isT [125] r = true by simp [h])]
  cases st r with
  | error f => rfl
  | ok p =>
    simp only
    cases restW st n p.2 with
    | error f => rfl
    | ok q => simp
section
variable {tE tS : Nat} {w : World}
theorem exr_nil : ExR tE w none 0 [] [] := ⟨[], [], World.ownsRow_nil _ _ _ _, rfl, rfl, rfl⟩
theorem smr_nil : SmR tE tS w none 0 [] [] := ⟨[], [], World.ownsRow_nil _ _ _ _, rfl, rfl, rfl⟩
theorem loc_sm {oa : Option Addr} {cap : Nat} {es : List Sm} {S : List Nat} : Loc S fun w => SmR tE tS w oa cap es S := loc_of fun a b h hk => h.kept hk
/-- what a statement's reader leaves in its block -/
def StIn (tE tS xb : Nat) (n : Nat) (s : Sm) (w' : World) : Prop := ∃ oe ob ol ce cb cl Se Sb Sl, w'.heap[xb]? = some (.cells (smC s oe ob ol ce cb cl).toArray tS (0, 0)) ∧ ExR tE w' oe ce s.e Se ∧ SmR tE tS w' ob cb s.body Sb ∧ SmR tE tS w' ol cl s.els Sl ∧ Nw n (Se ++ (Sb ++ Sl))
theorem getF5 {v1 v2 v3 v4 v5 : Value} (s : List UInt8) : (s = wIf ∧ getF [(wIf, v1), (wWhile, v2), (wLock, v3), (wPrint, v4), (wSkip, v5)] s = some v1) ∨ (s = wWhile ∧ getF [(wIf, v1), (wWhile, v2), (wLock, v3), (wPrint, v4), (wSkip, v5)] s = some v2) ∨
    (s = wLock ∧ getF [(wIf, v1), (wWhile, v2), (wLock, v3), (wPrint, v4), (wSkip, v5)] s = some v3) ∨ (s = wPrint ∧ getF [(wIf, v1), (wWhile, v2), (wLock, v3), (wPrint, v4), (wSkip, v5)] s = some v4) ∨ (s = wSkip ∧ getF [(wIf, v1), (wWhile, v2), (wLock, v3), (wPrint, v4), (wSkip, v5)] s = some v5) ∨
    ((s ≠ wIf ∧ s ≠ wWhile ∧ s ≠ wLock ∧ s ≠ wPrint ∧ s ≠ wSkip) ∧ getF [(wIf, v1), (wWhile, v2), (wLock, v3), (wPrint, v4), (wSkip, v5)] s = none) := by
  by_cases h1 : s = wIf
  · exact .inl ⟨h1, by simp [getF, h1]⟩
  by_cases h2 : s = wWhile
  · exact .inr (.inl ⟨h2, by subst h2; simp [getF, h1]⟩)
  by_cases h3 : s = wLock
  · exact .inr (.inr (.inl ⟨h3, by subst h3; simp [getF, h1, h2]⟩))
  by_cases h4 : s = wPrint
  · exact .inr (.inr (.inr (.inl ⟨h4, by subst h4; simp [getF, h1, h2, h3]⟩)))
  by_cases h5 : s = wSkip
  · exact .inr (.inr (.inr (.inr (.inl ⟨h5, by subst h5; simp [getF, h1, h2, h3, h4]⟩))))
  · exact .inr (.inr (.inr (.inr (.inr ⟨⟨h1, h2, h3, h4, h5⟩, by simp [getF, h1, h2, h3, h4, h5]⟩))))
end
end Sx
namespace Sx
open Go Go.RowKit LexS ParS
section
variable {w w' w0 : World} {M : List Nat} {hs : List Res}
/-- two blocks have been written on by a callee, and something new has come -/
theorem St.prs2 {b1 b2 : Nat} {o1 o2 o1' o2' : Obj} {q : Res} (st : St w0 M (.blk b1 o1 :: .blk b2 o2 :: hs) w) (ch : Chg [b1, b2] w w') (hm1 : b1 ∈ M ∨ w0.heap.size ≤ b1) (hm2 : b2 ∈ M ∨ w0.heap.size ≤ b2)
    (h1 : w'.heap[b1]? = some o1') (h2 : w'.heap[b2]? = some o2') (hq : q.holds w0.heap.size w') (hqa : ∀ k ∈ q.at?, w.heap.size ≤ k) : St w0 M (q :: .blk b1 o1' :: .blk b2 o2' :: hs) w' := by
  have hne : b1 ≠ b2 := st.bne 0 1 (by decide) rfl rfl
  have l1 : b1 < w.heap.size := (Array.getElem?_eq_some_iff.1 (st.res (i := 0) rfl)).1
  have l2 : b2 < w.heap.size := (Array.getElem?_eq_some_iff.1 (st.res (i := 1) rfl)).1
  have st1 := st.join (q := .tree [b1, b2] (fun _ => True)) (fun k hk => by
    simp only [Res.at?, List.mem_cons, List.not_mem_nil, or_false] at hk ⊢; exact hk) ⟨trivial, fun k hk => by
      simp only [List.mem_cons, List.not_mem_nil, or_false] at hk
      rcases hk with rfl | rfl <;> assumption, fun _ _ _ _ _ => trivial⟩
  have st2 := st1.swapPush (i := 0) (r' := .tree [b1, b2] (fun _ => True)) rfl ch (fun k hk => hk) (fun k hk => by
      simp only [List.mem_cons, List.not_mem_nil, or_false] at hk
      rcases hk with rfl | rfl <;> assumption) (fun k hk => hk) ⟨trivial, fun k hk => by
      simp only [List.mem_cons, List.not_mem_nil, or_false] at hk
      rcases hk with rfl | rfl
      · exact Nat.lt_of_lt_of_le l1 ch.size
      · exact Nat.lt_of_lt_of_le l2 ch.size, fun _ _ _ _ _ => trivial⟩ hq hqa
  have st3 := st2.perm (List.Perm.swap _ _ _)
  have st4 := st3.split2 (r := .blk b1 o1') (s := .blk b2 o2') (fun k hk => by
    simp only [Res.at?, List.mem_cons, List.not_mem_nil, or_false] at hk ⊢; exact .inl hk) (fun k hk => by
    simp only [Res.at?, List.mem_cons, List.not_mem_nil, or_false] at hk ⊢; exact .inr hk) (fun k hk hk' => by
    simp only [Res.at?, List.mem_cons, List.not_mem_nil, or_false] at hk hk'; exact hne (hk.symm.trans hk')) h1 h2
  exact st4.perm ((List.Perm.cons _ (List.Perm.swap _ _ _)).trans (List.Perm.swap _ _ _))
end
theorem form_ne {t : Tok} {s s' : List UInt8} (h : t.text = s') (hne : s' ≠ s) : ¬ formT t s = true := by unfold formT; simp [h, hne]
theorem stmtW_assign {e : Nat} {blk : List Tok → PR (List Sm)} {ts : List Tok} (h : ((here ts).text ≠ wIf ∧ (here ts).text ≠ wWhile ∧ (here ts).text ≠ wLock ∧ (here ts).text ≠ wPrint ∧ (here ts).text ≠ wSkip) ∨ (here ts).kind ≠ 2) :
    stmtW e blk ts = assignP e (atT e ts) ts := by
  have key : ∀ s, (here ts).text ≠ s ∨ (here ts).kind ≠ 2 → ¬ formT (here ts) s = true := fun s h => by
    unfold formT
    rcases h with h | h <;> simp [h]
  rw [stmtW_eq, if_neg (key _ (h.imp (·.1) id)), if_neg (key _ (h.imp (·.2.1) id)), if_neg (key _ (h.imp (·.2.2.1) id)), if_neg (key _ (h.imp (·.2.2.2.1) id)), if_neg (key _ (h.imp (·.2.2.2.2) id))]
end Sx

