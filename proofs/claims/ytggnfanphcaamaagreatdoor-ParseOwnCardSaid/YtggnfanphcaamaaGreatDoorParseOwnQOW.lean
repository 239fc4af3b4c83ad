/- A part of the proof: contracts of functions and plain laws; each theorem says its own conditions. -/
import Derived.Test.YtggnfanphcaamaaGreatDoorParseOwnK1
import Derived.Test.YtggnfanphcaamaaGreatDoorParseOwnK13
namespace Go.Proofs.YtggnfanphcaamaaGreatDoor
open Go.RowKit Sx LexS ParS _root_.Go.Proofs.Tryz
set_option linter.unusedVariables false
set_option linter.unusedSimpArgs false
theorem pgC_form {w : World} {p : Pg} {l : List Value} {B : List Nat} (h : PgQ w p l B) : ∃ (gs gl gt : Option Addr) (gcs gcl gct : Nat), l = pgC p gs gl gt gcs gcl gct := by
 obtain ⟨os, cs, ol, cl, ot, ct, Ss, Sl, St, e, -⟩ := h
 exact ⟨os, ol, ot, cs, cl, ct, e⟩
theorem pgC_rows {w : World} {p : Pg} {gs gl gt : Option Addr} {gcs gcl gct : Nat} {B : List Nat} (h : PgQ w p (pgC p gs gl gt gcs gcl gct) B) : DcRow w (· < w.heap.size) gs p.shared ∧ DcRow w (· < w.heap.size) gl p.locks ∧ ThRow w (· < w.heap.size) gt p.threads := by
 obtain ⟨os, cs, ol, cl, ot, ct, e, h1, h2, h3⟩ := PgS.toV h (T := (· < w.heap.size)) (fun b hb => PgS.lt h b hb)
 simp only [List.cons.injEq, Value.slice.injEq, and_true, true_and] at e
 obtain ⟨⟨rfl, -⟩, ⟨rfl, -⟩, rfl, -⟩ := e
 exact ⟨h1, h2, h3⟩
set_option maxHeartbeats 4000000 in
theorem own_law (s : List UInt8) (w : World) (hsg : SigAt 1 w) : Ret Tryz.prog 4 [str s] w fun v w' => v = .bool true ∧ Chg [] w w' := by
 refine ret_of [_] func4 rfl ntmps4 rfl ?_
 have st := St.init w []
 obtain ⟨w0, rfl⟩ : ∃ w0, w0 = w := ⟨_, rfl⟩
 obtain ⟨p, e, fp, fr, hR⟩ : ∃ x e fp fr, parseRes s = (x, e, fp, fr) := ⟨_, _, _, _, rfl⟩
 have hok := parse_ok hR
 refine sr ?_
 refine ya ?_
 refine et (vk1 0 (vc_seq (sr ?_)))
 refine vc_e (e_call [] rfl rfl call7 rfl (lives_any _ (hsg.kept st.chg (by simp))) ?_)
 rintro _ w ⟨rfl, cw⟩
 replace st := st.call0 cw
 refine vy (y_not rfl) ?_
 refine et (vk2 0 14 ?_)
 refine vif ?_ ?_
 ·intro hc14
  exact absurd hc14 (by simp)
 intro hc14
 refine kt (vk1 0 (sr ?_))
 refine ym ?_
 refine vc_e (e_call [_] rfl rfl call5 rfl (parse_any s _ (hsg.kept st.chg (by simp))) ?_)
 rintro _ w h
 rw [ParsePost, hR] at h
 dsimp only at h
 obtain ⟨cw, _, ⟨os1, ol1, ot1, cs1, cl1, ct1, Sq1, rfl, hT, hN⟩, rfl⟩ := h
 have hN1 := hN.le st.chg.size
 replace st := st.pushR cw (holds_pg hT) hN.2
 refine ym ?_
 iterate 3 refine vy (y_ext rfl rfl) ?_
 refine vc_e (e_al (l := [_, _, _]) st rfl rfl zeroValue25 rfl ?_)
 intro b3 w hb3 st
 refine vc_e (e_al (l := [_, _]) st rfl rfl zeroValue28 rfl ?_)
 intro b5 w hb5 st
 refine vc_e (e_sts (vs := [_, _, _]) st 1 rfl rfl rfl rfl rfl sizeOf25 rfl rfl (by (right; assumption)) ?_)
 intro w st
 refine ya ?_
 refine vc_e (e_sts (vs := [_, _]) st 0 rfl rfl rfl rfl rfl sizeOf28 rfl rfl (by (right; assumption)) ?_)
 intro w st
 refine et (vk2 0 3 (sr ?_))
 refine ym ?_
 refine vc_e (e_call [_] rfl rfl call5 rfl (parse_any s _ (hsg.kept st.chg (by simp))) ?_)
 rintro _ w h
 rw [ParsePost, hR] at h
 dsimp only at h
 obtain ⟨cw, _, ⟨os2, ol2, ot2, cs2, cl2, ct2, Sq2, rfl, hT, hN⟩, rfl⟩ := h
 have hN2 := hN.le st.chg.size
 replace st := st.pushR cw (holds_pg hT) hN.2
 refine ym ?_
 iterate 3 refine vy (y_ext rfl rfl) ?_
 refine vc_e (e_al (l := [_, _, _]) st rfl rfl zeroValue25 rfl ?_)
 intro b6 w hb6 st
 refine vc_e (e_al (l := [_, _]) st rfl rfl zeroValue28 rfl ?_)
 intro b8 w hb8 st
 refine vc_e (e_sts (vs := [_, _, _]) st 1 rfl rfl rfl rfl rfl sizeOf25 rfl rfl (by (right; assumption)) ?_)
 intro w st
 refine ya ?_
 refine vc_e (e_sts (vs := [_, _]) st 0 rfl rfl rfl rfl rfl sizeOf28 rfl rfl (by (right; assumption)) ?_)
 intro w st
 refine et (vk3 0 3 6 (sr ?_))
 refine yla st 1 [_, _, _] isAgg25 sizeOf25 ?_
 refine vc_e (e_call [_] rfl rfl call9 rfl (pcopyP_any p hok _ _ _ _ _ _ _ (pgC_rows (st.res (i := 2) rfl).1).1 (pgC_rows (st.res (i := 2) rfl).1).2.1 (pgC_rows (st.res (i := 2) rfl).1).2.2 (Nat.le_refl _)) ?_)
 rintro _ w ⟨l3, Sq3, rfl, hT, hN, cw⟩
 obtain ⟨os3, ol3, ot3, cs3, cl3, ct3, rfl⟩ := pgC_form hT
 have hN3 := hN.le st.chg.size
 replace st := st.pushR cw (holds_pg hT) hN.2
 refine vc_e (e_al (l := [_, _, _]) st rfl rfl zeroValue25 rfl ?_)
 intro b9 w hb9 st
 refine vc_e (e_sts (vs := [_, _, _]) st 0 rfl rfl rfl rfl rfl sizeOf25 rfl rfl (by (right; assumption)) ?_)
 intro w st
 refine et (vk4 0 3 6 9 (sr ?_))
 refine yla st 6 [_, _, _] isAgg25 sizeOf25 ?_
 refine vc_e (e_call [_] rfl rfl call10 rfl (blankP_any p hok _ Sq1 _ (st.res (i := 7) rfl).1 hN1.1) ?_)
 rintro _ w ⟨rfl, cw⟩
 replace st := St.withinI st (i := 7) (fun _ => True) rfl cw (fun k hk => hk) (fun k hk => .inr (hN1.2 k hk)) trivial (loc_of fun _ _ h _ => h)
 refine et (vk3 0 6 9 (sr ?_))
 refine yla st 0 [_, _, _] isAgg25 sizeOf25 ?_
 refine vc_e (e_call [_] rfl rfl call10 rfl (blankP_any p hok _ Sq3 _ (st.res (i := 1) rfl).1 hN3.1) ?_)
 rintro _ w ⟨rfl, cw⟩
 replace st := St.withinI st (i := 1) (fun _ => True) rfl cw (fun k hk => hk) (fun k hk => .inr (hN3.2 k hk)) trivial (loc_of fun _ _ h _ => h)
 refine et (vk2 0 6 (sr ?_))
 refine ym ?_
 refine vc_e (e_call [_] rfl rfl call6 rfl (rparse_any s _) ?_)
 rintro _ w h
 rw [ParsePost, hR] at h
 dsimp only at h
 obtain ⟨cw, _, ⟨os4, ol4, ot4, cs4, cl4, ct4, Sq4, rfl, hT, hN⟩, rfl⟩ := h
 have hN4 := hN.le st.chg.size
 replace st := st.pushR cw (holds_pg hT) hN.2
 refine ym ?_
 iterate 3 refine vy (y_ext rfl rfl) ?_
 refine vc_e (e_al (l := [_, _, _]) st rfl rfl zeroValue25 rfl ?_)
 intro b10 w hb10 st
 refine vc_e (e_al (l := [_, _]) st rfl rfl zeroValue28 rfl ?_)
 intro b12 w hb12 st
 refine vc_e (e_sts (vs := [_, _, _]) st 1 rfl rfl rfl rfl rfl sizeOf25 rfl rfl (by (right; assumption)) ?_)
 intro w st
 refine ya ?_
 refine vc_e (e_sts (vs := [_, _]) st 0 rfl rfl rfl rfl rfl sizeOf28 rfl rfl (by (right; assumption)) ?_)
 intro w st
 refine et (vk2 6 10 (sr ?_))
 refine yla st 6 [_, _, _] isAgg25 sizeOf25 ?_
 refine yla st 1 [_, _, _] isAgg25 sizeOf25 ?_
 refine vc_e (e_call [_, _] rfl rfl call8 rfl (rexactly_any (S := fun _ => True) p p hok _ _ _ _ _ _ _ _ _ _ _ _ _ (pgS_rows (st.res (i := 7) rfl).1).1 (pgS_rows (st.res (i := 7) rfl).1).2.1 (pgS_rows (st.res (i := 7) rfl).1).2.2 (pgS_rows (st.res (i := 2) rfl).1).1 (pgS_rows (st.res (i := 2) rfl).1).2.1 (pgS_rows (st.res (i := 2) rfl).1).2.2) ?_)
 rintro _ w ⟨rfl, cw⟩
 replace st := st.call0 cw
 rw [exactP_refl]
 refine ya ?_
 refine et (vk1 2 (vc_ret ?_))
 refine vq_ret1 st (.inl rfl) results4 (.tmp rfl) ?_
 refine ⟨_, rfl, ?_⟩
 exact ⟨rfl, st.chg⟩
end Go.Proofs.YtggnfanphcaamaaGreatDoor

