/- A part of the proof: contracts of functions and plain laws; each theorem says its own conditions. -/
import Derived.Test.YtnmhlpnapgojjaaGreatDoorPrettyLaidAl
import Derived.Test.YtnmhlpnapgojjaaGreatDoorPrettyLaidK3
import Derived.Test.YtnmhlpnapgojjaaGreatDoorPrettyLaidK1
import Derived.Test.YtnmhlpnapgojjaaGreatDoorPrettyLaidK4
import Derived.Test.YtnmhlpnapgojjaaGreatDoorPrettyLaidK2
import Derived.Test.YtnmhlpnapgojjaaGreatDoorPrettyLaidK0
set_option linter.unusedVariables false
set_option linter.unusedSimpArgs false
namespace Go.Proofs.YtnmhlpnapgojjaaGreatDoor
open Go.RowKit Sx LexS _root_.Go.Proofs.Tryz
section
variable {n0:Nat}
set_option maxHeartbeats 2000000 in
theorem kD5 (s:Sm) (d:Nat) (hd:d≤64) (hR:zH9 s d=true) (hok:OkS s) (oe ob ol:Option Addr) (ce cb cl:Nat) (bw:Nat) (v:Value) (F:List UInt8) (w:World) (hse:ExRow w (·<n0) oe s.e) (hsb:SmRow w (·<n0) ob s.body) (hsl:SmRow w (·<n0) ol s.els)
    (hW:Wr 5 n0 162 bw v F w) (hn0:n0≤w.heap.size)
  (hrec:∀ (l:List Sm),(l=s.body∨l=s.els)→∀ (bw:Nat) (v:Value) (F:List UInt8) (oa:Option Addr) (cap:Nat) (w:World),SmRow w (·<n0) oa l→Wr 5 n0 162 bw v F w→n0≤w.heap.size→d<64→
    Ret Tryz.prog 137 [.pointer (some ⟨bw,0,none⟩),.slice oa l.length cap,.int .i64 ((d+1:Nat):Int)] w fun r w'=>r=.tuple #[]∧WrP 5 n0 162 bw v (F++zJ6 l (d+1)) w w') :
  Ret Tryz.prog 173 [.pointer (some ⟨bw,0,none⟩),.agg (smL s oe ob ol ce cb cl).toArray,.int .i64 (d:Int)] w fun r w'=>r=.tuple #[]∧WrP 5 n0 162 bw v (F++qK6 s d) w w':=by
 refine zB [_,_,_] func173 rfl ntmps173 rfl ?_;have st:=St.init w [];clear st;obtain⟨w0,rfl⟩:∃ w0,w0=w:=⟨_,rfl⟩
 have st:=St.wrInit hW;have hsame:∀ {w1:World},Chg (bw::v.ownBlock.toList) w0 w1→Same (·<n0) w0 w1:=fun c=>hW.same c
 obtain⟨⟨r1,r1b⟩,r2,r3,r4,r5,r6,r7,r8,r9⟩:=rightS_iff.1 hR;refine a2 ?_;refine zA3 (zT2 (l:=[_,_,_,_,_,_,_]) st rfl rfl rfl rfl ?_);intro b4 w hb4 st;refine a6 ?_;refine zA3 (zA1 [_,_] rfl rfl call216 rfl (zQ3 bw _ _ d _ (by exact st.wrGet (i:=1) rfl) (Nat.le_trans hn0 st.chg.size) (by omega)) ?_);rintro _ w ⟨rfl,hp⟩;obtain⟨v9,st⟩:=st.wr (i:=1) rfl hp;dsimp only [zA0] at st;refine a2 ?_;refine zL2 (w0:=w0) (M:=(bw::v.ownBlock.toList)) (fun (_:Value)=>[(0,.pointer (some ⟨bw,0,none⟩)),(2,.int .i64 (d:Int)),(4,.pointer (some ⟨b4,0,none⟩))]) (fun v1=>[.blk b4 (.cells (smL s oe ob ol ce cb cl).toArray 67 (0,0)),wrR (bw::v.ownBlock.toList) w0.heap.size 5 n0 162 bw v1 (F++mar d++hdS s)]) (fun _ _=>True) ?_ ?_
 ·refine a2 ?_;refine vy (zC3 rfl qU67 rfl rfl qZ64 rfl) ?_;refine yl st 0 qA64 ?_;refine a9 ?_;refine vif ?_ ?_;intro hc11;(try simp only [dn] at hc11)
  have hnm:s.nm.length≤32:=by
   have hN:qF6 s.k=true:=by unfold qF6;simp only [decide_eq_true_eq];omega
   rw [hN] at r2
   exact zL9 (by simpa [zR9] using r2)
  obtain⟨x,hx,hlen,hRx⟩:=zP5 (by unfold zW9;simp only [decide_eq_true_eq];omega) r4;obtain⟨eb,eo,rfl,heS,hel,heg⟩:=ExRow.at hse (by omega);obtain⟨o0,c0,hV0,hr0,hc0⟩:=heg 0 x hx;have hxt:=qM0 hx;have hkx:=hok.e.2 0 x hx;refine a3 ?_;refine yfz 1 qU67 qZ9 ?_;refine yl st 0 qA9 ?_;refine vy (qV8 rfl rfl (by simp only [List.length_append,List.length_cons,List.length_nil];omega)) ?_;refine zA3 (zA1 [_,_] rfl rfl call136 rfl (zE1 bw _ _ _ _ (by exact st.wrGet (i:=1) rfl) (Nat.le_trans hn0 st.chg.size) (by simp only [List.length_append,List.length_cons,List.length_nil];omega)) ?_);rintro _ w ⟨rfl,hp⟩;obtain⟨v9,st⟩:=st.wr (i:=1) rfl hp;dsimp only [zA0] at st;refine a5 ?_;refine yfz 3 qU67 qZ40 ?_;refine yl st 0 qA40 ?_;refine vy (zM3 (k:=0) rfl rfl qU40 qZ42 rfl (by omega)) ?_;refine vy (zE6 (exL x o0 c0) rfl qA42 qZ42 rfl (fun i v hi=>st.chg.cell (hc0 i v hi) (hW.notin heS))) ?_;refine zA3 (zA1 [_,_] rfl rfl call217 rfl (qE9 _ x rfl 0 hRx hkx bw _ _ _ _ (hV0.kept (hsame st.chg)) (by exact st.wrGet (i:=1) rfl) (Nat.le_trans hn0 st.chg.size)) ?_);rintro _ w ⟨rfl,hp⟩;obtain⟨v9,st⟩:=st.wr (i:=1) rfl hp;dsimp only [zA0] at st;refine a4 ?_;refine zA3 (zA1 [_,_] rfl rfl call136 rfl (zE1 bw _ _ _ _ (by exact st.wrGet (i:=1) rfl) (Nat.le_trans hn0 st.chg.size) (by simp only [List.length_append,List.length_cons,List.length_nil];omega)) ?_);rintro _ w ⟨rfl,hp⟩;obtain⟨v9,st⟩:=st.wr (i:=1) rfl hp;dsimp only [zA0] at st;refine a2 ?_;refine zB8 v9 ⟨rfl,rfl,rfl,trivial⟩ (by unfold hdS;(rw [if_pos (by assumption),hxt];simpa only [List.append_assoc] using st)) ?_;trivial;intro hc11;(try simp only [dn] at hc11);refine a6 ?_;refine vif ?_ ?_;intro hc26;(try simp only [dn] at hc26)
  have hnm:s.nm.length≤32:=by
   have hN:qF6 s.k=true:=by unfold qF6;simp only [decide_eq_true_eq];omega
   rw [hN] at r2
   exact zL9 (by simpa [zR9] using r2)
  have hot:s.other.length≤32:=by
   rw [show decide (s.k=2)=true by simp only [decide_eq_true_eq];omega] at r3
   exact zL9 (by simpa [zR9] using r3)
  obtain⟨x,hx,hlen,hRx⟩:=zP5 (by unfold zW9;simp only [decide_eq_true_eq];omega) r4;obtain⟨eb,eo,rfl,heS,hel,heg⟩:=ExRow.at hse (by omega);obtain⟨o0,c0,hV0,hr0,hc0⟩:=heg 0 x hx;have hxt:=qM0 hx;have hkx:=hok.e.2 0 x hx;refine a3 ?_;refine yfz 1 qU67 qZ9 ?_;refine yl st 0 qA9 ?_;refine vy (qV8 rfl rfl (by simp only [List.length_append,List.length_cons,List.length_nil];omega)) ?_;refine yfz 2 qU67 qZ9 ?_;refine yl st 0 qA9 ?_;(iterate 2 refine vy (qV8 rfl rfl (by simp only [List.length_append,List.length_cons,List.length_nil];omega)) ?_);refine zA3 (zA1 [_,_] rfl rfl call136 rfl (zE1 bw _ _ _ _ (by exact st.wrGet (i:=1) rfl) (Nat.le_trans hn0 st.chg.size) (by simp only [List.length_append,List.length_cons,List.length_nil];omega)) ?_);rintro _ w ⟨rfl,hp⟩;obtain⟨v9,st⟩:=st.wr (i:=1) rfl hp;dsimp only [zA0] at st;refine a5 ?_;refine yfz 3 qU67 qZ40 ?_;refine yl st 0 qA40 ?_;refine vy (zM3 (k:=0) rfl rfl qU40 qZ42 rfl (by omega)) ?_;refine vy (zE6 (exL x o0 c0) rfl qA42 qZ42 rfl (fun i v hi=>st.chg.cell (hc0 i v hi) (hW.notin heS))) ?_;refine zA3 (zA1 [_,_] rfl rfl call217 rfl (qE9 _ x rfl 0 hRx hkx bw _ _ _ _ (hV0.kept (hsame st.chg)) (by exact st.wrGet (i:=1) rfl) (Nat.le_trans hn0 st.chg.size)) ?_);rintro _ w ⟨rfl,hp⟩;obtain⟨v9,st⟩:=st.wr (i:=1) rfl hp;dsimp only [zA0] at st;refine a4 ?_;refine zA3 (zA1 [_,_] rfl rfl call136 rfl (zE1 bw _ _ _ _ (by exact st.wrGet (i:=1) rfl) (Nat.le_trans hn0 st.chg.size) (by simp only [List.length_append,List.length_cons,List.length_nil];omega)) ?_);rintro _ w ⟨rfl,hp⟩;obtain⟨v9,st⟩:=st.wr (i:=1) rfl hp;dsimp only [zA0] at st;refine a2 ?_;refine zB8 v9 ⟨rfl,rfl,rfl,trivial⟩ (by unfold hdS;(rw [if_neg (by assumption),if_pos (by assumption),hxt];simpa only [List.append_assoc] using st)) ?_;trivial;intro hc26;(try simp only [dn] at hc26);refine a6 ?_;refine vif ?_ ?_;intro hc45;(try simp only [dn] at hc45);obtain⟨x,hx,hlen,hRx⟩:=zP5 (by unfold zW9;simp only [decide_eq_true_eq];omega) r4;obtain⟨eb,eo,rfl,heS,hel,heg⟩:=ExRow.at hse (by omega);obtain⟨o0,c0,hV0,hr0,hc0⟩:=heg 0 x hx;have hxt:=qM0 hx;have hkx:=hok.e.2 0 x hx;refine a3 ?_;refine zA3 (zA1 [_,_] rfl rfl call136 rfl (zE1 bw _ _ _ _ (by exact st.wrGet (i:=1) rfl) (Nat.le_trans hn0 st.chg.size) (by simp only [List.length_append,List.length_cons,List.length_nil];omega)) ?_);rintro _ w ⟨rfl,hp⟩;obtain⟨v9,st⟩:=st.wr (i:=1) rfl hp;dsimp only [zA0] at st;refine a5 ?_;refine yfz 3 qU67 qZ40 ?_;refine yl st 0 qA40 ?_;refine vy (zM3 (k:=0) rfl rfl qU40 qZ42 rfl (by omega)) ?_;refine vy (zE6 (exL x o0 c0) rfl qA42 qZ42 rfl (fun i v hi=>st.chg.cell (hc0 i v hi) (hW.notin heS))) ?_
  refine zA3 (zA1 [_,_] rfl rfl call217 rfl (qE9 _ x rfl 0 hRx hkx bw _ _ _ _ (hV0.kept (hsame st.chg)) (by exact st.wrGet (i:=1) rfl) (Nat.le_trans hn0 st.chg.size)) ?_);rintro _ w ⟨rfl,hp⟩;obtain⟨v9,st⟩:=st.wr (i:=1) rfl hp;dsimp only [zA0] at st;refine a4 ?_;refine zA3 (zA1 [_,_] rfl rfl call136 rfl (zE1 bw _ _ _ _ (by exact st.wrGet (i:=1) rfl) (Nat.le_trans hn0 st.chg.size) (by simp only [List.length_append,List.length_cons,List.length_nil];omega)) ?_);rintro _ w ⟨rfl,hp⟩;obtain⟨v9,st⟩:=st.wr (i:=1) rfl hp;dsimp only [zA0] at st;refine a2 ?_;refine zB8 v9 ⟨rfl,rfl,rfl,trivial⟩ (by unfold hdS;(rw [if_neg (by assumption),if_neg (by assumption),if_pos (by assumption),hxt];simpa only [List.append_assoc] using st)) ?_;trivial;intro hc45;(try simp only [dn] at hc45);refine a6 ?_;refine vif ?_ ?_;intro hc57;(try simp only [dn] at hc57);refine a2 ?_;refine zA3 (zA1 [_,_] rfl rfl call136 rfl (zE1 bw _ _ _ _ (by exact st.wrGet (i:=1) rfl) (Nat.le_trans hn0 st.chg.size) (by simp only [List.length_append,List.length_cons,List.length_nil];omega)) ?_);rintro _ w ⟨rfl,hp⟩;obtain⟨v9,st⟩:=st.wr (i:=1) rfl hp;dsimp only [zA0] at st;refine a2 ?_;refine zB8 v9 ⟨rfl,rfl,rfl,trivial⟩ (by unfold hdS;(rw [if_neg (by assumption),if_neg (by assumption),if_neg (by assumption),if_pos (by assumption)];simpa only [List.append_assoc] using st)) ?_;trivial;intro hc57;(try simp only [dn] at hc57);refine a6 ?_;refine vif ?_ ?_;intro hc61;(try simp only [dn] at hc61)
  have hnm:s.nm.length≤32:=by
   have hN:qF6 s.k=true:=by unfold qF6;simp only [decide_eq_true_eq];omega
   rw [hN] at r2
   exact zL9 (by simpa [zR9] using r2)
  refine a2 ?_;refine yfz 1 qU67 qZ9 ?_;refine yl st 0 qA9 ?_;(iterate 2 refine vy (qV8 rfl rfl (by simp only [List.length_append,List.length_cons,List.length_nil];omega)) ?_);refine zA3 (zA1 [_,_] rfl rfl call136 rfl (zE1 bw _ _ _ _ (by exact st.wrGet (i:=1) rfl) (Nat.le_trans hn0 st.chg.size) (by simp only [List.length_append,List.length_cons,List.length_nil];omega)) ?_);rintro _ w ⟨rfl,hp⟩;obtain⟨v9,st⟩:=st.wr (i:=1) rfl hp;dsimp only [zA0] at st;refine a2 ?_;refine zB8 v9 ⟨rfl,rfl,rfl,trivial⟩ (by unfold hdS;(rw [if_neg (by assumption),if_neg (by assumption),if_neg (by assumption),if_neg (by assumption),if_pos (by assumption)];simpa only [List.append_assoc] using st)) ?_;trivial;intro hc61;(try simp only [dn] at hc61);refine a7 ?_;refine vif ?_ ?_
  ·intro hc69;(try simp only [dn] at hc69);obtain⟨x,hx,hlen,hRx⟩:=zP5 (by unfold zW9;simp only [decide_eq_true_eq];omega) r4;obtain⟨eb,eo,rfl,heS,hel,heg⟩:=ExRow.at hse (by omega);obtain⟨o0,c0,hV0,hr0,hc0⟩:=heg 0 x hx;have hxt:=qM0 hx;have hkx:=hok.e.2 0 x hx;refine a3 ?_;refine zL2 (w0:=w0) (M:=(bw::v.ownBlock.toList)) (fun (_:Value)=>[(0,.pointer (some ⟨bw,0,none⟩)),(2,.int .i64 (d:Int)),(4,.pointer (some ⟨b4,0,none⟩))]) (fun v1=>[.blk b4 (.cells (smL s (some ⟨eb,eo,none⟩) ob ol ce cb cl).toArray 67 (0,0)),wrR (bw::v.ownBlock.toList) w0.heap.size 5 n0 162 bw v1 (F++mar d++(if s.k=4 then [119,104,105,108,101,32,40] else [105,102,32,40]))]) (fun _ _=>True) ?_ ?_
   ·refine a2 ?_;refine vy (zC3 rfl qU67 rfl rfl qZ64 rfl) ?_;refine yl st 0 qA64 ?_;refine a3 ?_;refine vif ?_ ?_
    rotate_left
    all_goals
     intro hc74;(try simp only [dn] at hc74);refine a2 ?_;refine zA3 (zA1 [_,_] rfl rfl call136 rfl (zE1 bw _ _ _ _ (by exact st.wrGet (i:=1) rfl) (Nat.le_trans hn0 st.chg.size) (by simp only [List.length_append,List.length_cons,List.length_nil];omega)) ?_);rintro _ w ⟨rfl,hp⟩;obtain⟨v9,st⟩:=st.wr (i:=1) rfl hp;dsimp only [zA0] at st;refine a1 ?_;refine zB8 v9 ⟨rfl,rfl,rfl,trivial⟩ (by first|(rw [if_pos (by omega)];exact st)|(rw [if_neg (by omega)];exact st)) ?_;trivial
   clear st;rintro v2 w - st;refine a3 ?_;refine yfz 3 qU67 qZ40 ?_;refine yl st 0 qA40 ?_;refine vy (zM3 (k:=0) rfl rfl qU40 qZ42 rfl (by omega)) ?_;refine vy (zE6 (exL x o0 c0) rfl qA42 qZ42 rfl (fun i v hi=>st.chg.cell (hc0 i v hi) (hW.notin heS))) ?_;refine zA3 (zA1 [_,_] rfl rfl call217 rfl (qE9 _ x rfl 0 hRx hkx bw _ _ _ _ (hV0.kept (hsame st.chg)) (by exact st.wrGet (i:=1) rfl) (Nat.le_trans hn0 st.chg.size)) ?_);rintro _ w ⟨rfl,hp⟩;obtain⟨v9,st⟩:=st.wr (i:=1) rfl hp;dsimp only [zA0] at st;refine a4 ?_;refine zA3 (zA1 [_,_] rfl rfl call136 rfl (zE1 bw _ _ _ _ (by exact st.wrGet (i:=1) rfl) (Nat.le_trans hn0 st.chg.size) (by simp only [List.length_append,List.length_cons,List.length_nil];omega)) ?_);rintro _ w ⟨rfl,hp⟩;obtain⟨v9,st⟩:=st.wr (i:=1) rfl hp;dsimp only [zA0] at st;refine a2 ?_;refine zB8 v9 ⟨rfl,rfl,rfl,trivial⟩ (by unfold hdS;(rw [if_neg (by assumption),if_neg (by assumption),if_neg (by assumption),if_neg (by assumption),if_neg (by assumption),hxt];simpa only [List.append_assoc] using st)) ?_;trivial
  intro hc69;(try simp only [dn] at hc69);refine a5 ?_;refine vif ?_ ?_
  ·intro hc69;(try simp only [dn] at hc69);obtain⟨x,hx,hlen,hRx⟩:=zP5 (by unfold zW9;simp only [decide_eq_true_eq];omega) r4;obtain⟨eb,eo,rfl,heS,hel,heg⟩:=ExRow.at hse (by omega);obtain⟨o0,c0,hV0,hr0,hc0⟩:=heg 0 x hx;have hxt:=qM0 hx;have hkx:=hok.e.2 0 x hx;refine zL2 (w0:=w0) (M:=(bw::v.ownBlock.toList)) (fun (_:Value)=>[(0,.pointer (some ⟨bw,0,none⟩)),(2,.int .i64 (d:Int)),(4,.pointer (some ⟨b4,0,none⟩))]) (fun v1=>[.blk b4 (.cells (smL s (some ⟨eb,eo,none⟩) ob ol ce cb cl).toArray 67 (0,0)),wrR (bw::v.ownBlock.toList) w0.heap.size 5 n0 162 bw v1 (F++mar d++(if s.k=4 then [119,104,105,108,101,32,40] else [105,102,32,40]))]) (fun _ _=>True) ?_ ?_
   ·refine a2 ?_;refine vy (zC3 rfl qU67 rfl rfl qZ64 rfl) ?_;refine yl st 0 qA64 ?_;refine a3 ?_;refine vif ?_ ?_
    rotate_left
    all_goals
     intro hc74;(try simp only [dn] at hc74);refine a2 ?_;refine zA3 (zA1 [_,_] rfl rfl call136 rfl (zE1 bw _ _ _ _ (by exact st.wrGet (i:=1) rfl) (Nat.le_trans hn0 st.chg.size) (by simp only [List.length_append,List.length_cons,List.length_nil];omega)) ?_);rintro _ w ⟨rfl,hp⟩;obtain⟨v9,st⟩:=st.wr (i:=1) rfl hp;dsimp only [zA0] at st;refine a1 ?_;refine zB8 v9 ⟨rfl,rfl,rfl,trivial⟩ (by first|(rw [if_pos (by omega)];exact st)|(rw [if_neg (by omega)];exact st)) ?_;trivial
   clear st;rintro v2 w - st;refine a3 ?_;refine yfz 3 qU67 qZ40 ?_;refine yl st 0 qA40 ?_;refine vy (zM3 (k:=0) rfl rfl qU40 qZ42 rfl (by omega)) ?_;refine vy (zE6 (exL x o0 c0) rfl qA42 qZ42 rfl (fun i v hi=>st.chg.cell (hc0 i v hi) (hW.notin heS))) ?_;refine zA3 (zA1 [_,_] rfl rfl call217 rfl (qE9 _ x rfl 0 hRx hkx bw _ _ _ _ (hV0.kept (hsame st.chg)) (by exact st.wrGet (i:=1) rfl) (Nat.le_trans hn0 st.chg.size)) ?_);rintro _ w ⟨rfl,hp⟩;obtain⟨v9,st⟩:=st.wr (i:=1) rfl hp;dsimp only [zA0] at st;refine a4 ?_;refine zA3 (zA1 [_,_] rfl rfl call136 rfl (zE1 bw _ _ _ _ (by exact st.wrGet (i:=1) rfl) (Nat.le_trans hn0 st.chg.size) (by simp only [List.length_append,List.length_cons,List.length_nil];omega)) ?_);rintro _ w ⟨rfl,hp⟩;obtain⟨v9,st⟩:=st.wr (i:=1) rfl hp;dsimp only [zA0] at st;refine a2 ?_;refine zB8 v9 ⟨rfl,rfl,rfl,trivial⟩ (by unfold hdS;(rw [if_neg (by assumption),if_neg (by assumption),if_neg (by assumption),if_neg (by assumption),if_neg (by assumption),hxt];simpa only [List.append_assoc] using st)) ?_;trivial
  intro hc69;(try simp only [dn] at hc69);refine a2 ?_;refine zB8 v9 ⟨rfl,rfl,rfl,trivial⟩ (by unfold hdS;(exfalso;omega)) ?_;trivial
 clear st;rintro v2 w - st;refine a3 ?_;refine vy (zC3 rfl qU67 rfl rfl qZ64 rfl) ?_;refine yl st 0 qA64 ?_;refine a1 ?_;refine vmb ?_ ?_
 focus
  intro hg90;(try simp only [dn] at hg90);refine vy (zC3 rfl qU67 rfl rfl qZ64 rfl) ?_;refine yl st 0 qA64 ?_;refine a2 ?_;refine vmb ?_ ?_
  focus
   intro hg95;(try simp only [dn] at hg95);refine vy (zC3 rfl qU67 rfl rfl qZ64 rfl) ?_;refine yl st 0 qA64 ?_;refine a4 ?_;refine vif ?_ ?_;intro hc99;(try simp only [dn] at hc99);refine a2 ?_;refine zD4 (.inl rfl) results173 ?_
   rotate_left
   focus
    intro hc99;(try simp only [dn] at hc99);refine a4 ?_
    have hd64:d<64:=by
     rcases r7 with h|h
     ·have hB:qA1 s.k=true:=by unfold qA1;simp only [decide_eq_true_eq];omega
      rw [hB] at h;cases h.1
     ·exact h
    refine a1 ?_;refine yfz 4 qU67 qZ65 ?_;refine yl st 0 qA65 ?_;refine a1 ?_;refine vy (yin ((d+1:Nat):Int)) ?_;refine zA3 (zA1 [_,_,_] rfl rfl call137 rfl (hrec _ (.inl rfl) bw _ _ _ _ _ (hsb.kept (hsame st.chg)) (by exact st.wrGet (i:=1) rfl) (Nat.le_trans hn0 st.chg.size) (by have:=hd64;omega)) ?_);rintro _ w ⟨rfl,hp⟩;obtain⟨v9,st⟩:=st.wr (i:=1) rfl hp;dsimp only [zA0] at st;refine a6 ?_;refine zA3 (zA1 [_,_] rfl rfl call216 rfl (zQ3 bw _ _ d _ (by exact st.wrGet (i:=1) rfl) (Nat.le_trans hn0 st.chg.size) (by omega)) ?_);rintro _ w ⟨rfl,hp⟩;obtain⟨v9,st⟩:=st.wr (i:=1) rfl hp;dsimp only [zA0] at st;refine a5 ?_;refine yfz 5 qU67 qZ65 ?_;refine yl st 0 qA65 ?_;refine vy (zB1 rfl qU65) ?_;refine a3 ?_;refine vif ?_ ?_;intro hc112;(try simp only [dn] at hc112);refine a3 ?_;refine zA3 (zA1 [_,_] rfl rfl call136 rfl (zE1 bw _ _ _ _ (by exact st.wrGet (i:=1) rfl) (Nat.le_trans hn0 st.chg.size) (by simp only [List.length_append,List.length_cons,List.length_nil];omega)) ?_);rintro _ w ⟨rfl,hp⟩;obtain⟨v9,st⟩:=st.wr (i:=1) rfl hp;dsimp only [zA0] at st;refine a5 ?_;refine yfz 5 qU67 qZ65 ?_;refine yl st 0 qA65 ?_;refine a1 ?_;refine vy (yin ((d+1:Nat):Int)) ?_;refine zA3 (zA1 [_,_,_] rfl rfl call137 rfl (hrec _ (.inr rfl) bw _ _ _ _ _ (hsl.kept (hsame st.chg)) (by exact st.wrGet (i:=1) rfl) (Nat.le_trans hn0 st.chg.size) (by have:=hd64;omega)) ?_);rintro _ w ⟨rfl,hp⟩;obtain⟨v9,st⟩:=st.wr (i:=1) rfl hp;dsimp only [zA0] at st;refine a5 ?_;refine zA3 (zA1 [_,_] rfl rfl call216 rfl (zQ3 bw _ _ d _ (by exact st.wrGet (i:=1) rfl) (Nat.le_trans hn0 st.chg.size) (by omega)) ?_);rintro _ w ⟨rfl,hp⟩;obtain⟨v9,st⟩:=st.wr (i:=1) rfl hp;dsimp only [zA0] at st;refine a1 ?_
    rotate_left
    intro hc112;(try simp only [dn] at hc112);refine a1 ?_
    all_goals
     refine a3 ?_;refine zA3 (zA1 [_,_] rfl rfl call136 rfl (zE1 bw _ _ _ _ (by exact st.wrGet (i:=1) rfl) (Nat.le_trans hn0 st.chg.size) (by simp only [List.length_append,List.length_cons,List.length_nil];omega)) ?_);rintro _ w ⟨rfl,hp⟩;obtain⟨v9,st⟩:=st.wr (i:=1) rfl hp;dsimp only [zA0] at st;refine a1 ?_;refine zD4 (.inr rfl) results173 ?_
  rotate_left 3
  focus
   intro hg95;(try simp only [dn] at hg95);refine a11 ?_
   have hd64:d<64:=by
    rcases r7 with h|h
    ·have hB:qA1 s.k=true:=by unfold qA1;simp only [decide_eq_true_eq];omega
     rw [hB] at h;cases h.1
    ·exact h
   refine a1 ?_;refine yfz 4 qU67 qZ65 ?_;refine yl st 0 qA65 ?_;refine a1 ?_;refine vy (yin ((d+1:Nat):Int)) ?_;refine zA3 (zA1 [_,_,_] rfl rfl call137 rfl (hrec _ (.inl rfl) bw _ _ _ _ _ (hsb.kept (hsame st.chg)) (by exact st.wrGet (i:=1) rfl) (Nat.le_trans hn0 st.chg.size) (by have:=hd64;omega)) ?_);rintro _ w ⟨rfl,hp⟩;obtain⟨v9,st⟩:=st.wr (i:=1) rfl hp;dsimp only [zA0] at st;refine a6 ?_;refine zA3 (zA1 [_,_] rfl rfl call216 rfl (zQ3 bw _ _ d _ (by exact st.wrGet (i:=1) rfl) (Nat.le_trans hn0 st.chg.size) (by omega)) ?_);rintro _ w ⟨rfl,hp⟩;obtain⟨v9,st⟩:=st.wr (i:=1) rfl hp;dsimp only [zA0] at st;refine a5 ?_;refine yfz 5 qU67 qZ65 ?_;refine yl st 0 qA65 ?_;refine vy (zB1 rfl qU65) ?_;refine a3 ?_;refine vif ?_ ?_;intro hc112;(try simp only [dn] at hc112);refine a3 ?_;refine zA3 (zA1 [_,_] rfl rfl call136 rfl (zE1 bw _ _ _ _ (by exact st.wrGet (i:=1) rfl) (Nat.le_trans hn0 st.chg.size) (by simp only [List.length_append,List.length_cons,List.length_nil];omega)) ?_);rintro _ w ⟨rfl,hp⟩;obtain⟨v9,st⟩:=st.wr (i:=1) rfl hp;dsimp only [zA0] at st;refine a5 ?_;refine yfz 5 qU67 qZ65 ?_;refine yl st 0 qA65 ?_;refine a1 ?_;refine vy (yin ((d+1:Nat):Int)) ?_;refine zA3 (zA1 [_,_,_] rfl rfl call137 rfl (hrec _ (.inr rfl) bw _ _ _ _ _ (hsl.kept (hsame st.chg)) (by exact st.wrGet (i:=1) rfl) (Nat.le_trans hn0 st.chg.size) (by have:=hd64;omega)) ?_);rintro _ w ⟨rfl,hp⟩;obtain⟨v9,st⟩:=st.wr (i:=1) rfl hp;dsimp only [zA0] at st;refine a5 ?_;refine zA3 (zA1 [_,_] rfl rfl call216 rfl (zQ3 bw _ _ d _ (by exact st.wrGet (i:=1) rfl) (Nat.le_trans hn0 st.chg.size) (by omega)) ?_);rintro _ w ⟨rfl,hp⟩;obtain⟨v9,st⟩:=st.wr (i:=1) rfl hp;dsimp only [zA0] at st;refine a1 ?_
   rotate_left
   intro hc112;(try simp only [dn] at hc112);refine a1 ?_
   all_goals
    refine a3 ?_;refine zA3 (zA1 [_,_] rfl rfl call136 rfl (zE1 bw _ _ _ _ (by exact st.wrGet (i:=1) rfl) (Nat.le_trans hn0 st.chg.size) (by simp only [List.length_append,List.length_cons,List.length_nil];omega)) ?_);rintro _ w ⟨rfl,hp⟩;obtain⟨v9,st⟩:=st.wr (i:=1) rfl hp;dsimp only [zA0] at st;refine a1 ?_;refine zD4 (.inr rfl) results173 ?_
 rotate_left 5
 focus
  intro hg90;(try simp only [dn] at hg90);refine a16 ?_
  have hd64:d<64:=by
   rcases r7 with h|h
   ·have hB:qA1 s.k=true:=by unfold qA1;simp only [decide_eq_true_eq];omega
    rw [hB] at h;cases h.1
   ·exact h
  refine a1 ?_;refine yfz 4 qU67 qZ65 ?_;refine yl st 0 qA65 ?_;refine a1 ?_;refine vy (yin ((d+1:Nat):Int)) ?_;refine zA3 (zA1 [_,_,_] rfl rfl call137 rfl (hrec _ (.inl rfl) bw _ _ _ _ _ (hsb.kept (hsame st.chg)) (by exact st.wrGet (i:=1) rfl) (Nat.le_trans hn0 st.chg.size) (by have:=hd64;omega)) ?_);rintro _ w ⟨rfl,hp⟩;obtain⟨v9,st⟩:=st.wr (i:=1) rfl hp;dsimp only [zA0] at st;refine a6 ?_;refine zA3 (zA1 [_,_] rfl rfl call216 rfl (zQ3 bw _ _ d _ (by exact st.wrGet (i:=1) rfl) (Nat.le_trans hn0 st.chg.size) (by omega)) ?_);rintro _ w ⟨rfl,hp⟩;obtain⟨v9,st⟩:=st.wr (i:=1) rfl hp;dsimp only [zA0] at st;refine a5 ?_;refine yfz 5 qU67 qZ65 ?_;refine yl st 0 qA65 ?_;refine vy (zB1 rfl qU65) ?_;refine a3 ?_;refine vif ?_ ?_;intro hc112;(try simp only [dn] at hc112);refine a3 ?_;refine zA3 (zA1 [_,_] rfl rfl call136 rfl (zE1 bw _ _ _ _ (by exact st.wrGet (i:=1) rfl) (Nat.le_trans hn0 st.chg.size) (by simp only [List.length_append,List.length_cons,List.length_nil];omega)) ?_);rintro _ w ⟨rfl,hp⟩;obtain⟨v9,st⟩:=st.wr (i:=1) rfl hp;dsimp only [zA0] at st;refine a5 ?_;refine yfz 5 qU67 qZ65 ?_;refine yl st 0 qA65 ?_;refine a1 ?_;refine vy (yin ((d+1:Nat):Int)) ?_;refine zA3 (zA1 [_,_,_] rfl rfl call137 rfl (hrec _ (.inr rfl) bw _ _ _ _ _ (hsl.kept (hsame st.chg)) (by exact st.wrGet (i:=1) rfl) (Nat.le_trans hn0 st.chg.size) (by have:=hd64;omega)) ?_);rintro _ w ⟨rfl,hp⟩;obtain⟨v9,st⟩:=st.wr (i:=1) rfl hp;dsimp only [zA0] at st;refine a5 ?_;refine zA3 (zA1 [_,_] rfl rfl call216 rfl (zQ3 bw _ _ d _ (by exact st.wrGet (i:=1) rfl) (Nat.le_trans hn0 st.chg.size) (by omega)) ?_);rintro _ w ⟨rfl,hp⟩;obtain⟨v9,st⟩:=st.wr (i:=1) rfl hp;dsimp only [zA0] at st;refine a1 ?_
  rotate_left
  intro hc112;(try simp only [dn] at hc112);refine a1 ?_
  all_goals
   refine a3 ?_;refine zA3 (zA1 [_,_] rfl rfl call136 rfl (zE1 bw _ _ _ _ (by exact st.wrGet (i:=1) rfl) (Nat.le_trans hn0 st.chg.size) (by simp only [List.length_append,List.length_cons,List.length_nil];omega)) ?_);rintro _ w ⟨rfl,hp⟩;obtain⟨v9,st⟩:=st.wr (i:=1) rfl hp;dsimp only [zA0] at st;refine a1 ?_;refine zD4 (.inr rfl) results173 ?_
 all_goals
  refine⟨_,rfl,?_⟩;refine⟨rfl,(st.wrDone (i:=1) rfl).eq ?_⟩
  first
   | (exfalso;omega)
   | (rw [zT7 (by omega)];simp only [List.append_assoc])
   | (rw [gB1 (by omega)];simp only [List.append_assoc])
   | (rw [zT8 (by omega),if_pos (by omega)];simp only [List.append_assoc])
   | (rw [zT8 (by omega),if_neg (by omega)];simp only [List.append_assoc,List.nil_append])
set_option maxHeartbeats 1000000 in
theorem gR8:∀ (n:Nat) (ss:List Sm),szo ss=n→∀ (d:Nat),d≤64→zE3 ss d=true→qO ss→∀ (bw:Nat) (v:Value) (F:List UInt8) (oa:Option Addr) (cap:Nat) (w:World),SmRow w (·<n0) oa ss→Wr 5 n0 162 bw v F w→n0≤w.heap.size→
    Ret Tryz.prog 137 [.pointer (some ⟨bw,0,none⟩),.slice oa ss.length cap,.int .i64 (d:Int)] w fun r w'=>r=.tuple #[]∧WrP 5 n0 162 bw v (F++zJ6 ss d) w w':=by
 intro n;refine Nat.strongRecOn n fun n ih=>?_
 intro ss hn d hd hR hok bw v F oa cap w hr hW hn0;subst hn;have hssl:=hok.1;refine zB [_,_,_] func137 rfl ntmps137 rfl ?_;have st:=St.init w [];clear st;obtain⟨w0,rfl⟩:∃ w0,w0=w:=⟨_,rfl⟩
 have st:=St.wrInit hW;have hsame:∀ {w1:World},Chg (bw::v.ownBlock.toList) w0 w1→Same (·<n0) w0 w1:=fun c=>hW.same c
 refine a6 ?_;refine zC (w0:=w0) (M:=(bw::v.ownBlock.toList)) (fun (x:Nat×Value)=>[(0,.pointer (some ⟨bw,0,none⟩)),(1,.slice oa ss.length cap),(2,.int .i64 (d:Int)),(6,.int .i64 (x.1:Int))]) (fun x=>[wrR (bw::v.ownBlock.toList) w0.heap.size 5 n0 162 bw x.2 (F++zJ6 (ss.take x.1) d)]) (fun x _=>x.1≤ss.length) (fun x=>ss.length - x.1) (0,v) ⟨rfl,rfl,rfl,rfl,trivial⟩ (by simpa [zJ6] using st) (by simp) ?_;clear st;rintro ⟨j,v1⟩ w hj st;dsimp only at *;obtain⟨lq,many,hb,ho,hws,hx1,hx2⟩:=st.wrGet (i:=0) rfl;refine a5 ?_;refine vy (zB1 rfl qU65) ?_;refine a1 ?_;refine vmb ?_ ?_;intro hg11;(try simp only [dn] at hg11);refine a2 ?_;refine yfz 1 qU162 qZ4 ?_;refine vy (zD8 rfl qA4 (zZ hb)) ?_;refine a4 ?_;refine vif ?_ ?_;intro hc17;(try simp only [dn] at hc17);refine a5 ?_;obtain⟨s,hsj⟩:∃ s,ss[j]?=some s:=⟨_,List.getElem?_eq_getElem (by omega)⟩
 obtain⟨gb,go,rfl,hgS,hgl,hg⟩:=SmRow.at hr (by omega);obtain⟨oe,ob,ol,ce,cb,cl,hsV,hse,hsb,hsl,hc⟩:=hg j s hsj;have hks:=hok.2 j s hsj;have hz:=zF2 hsj;have hB:szo s.body<szo ss:=by have:=(qL s).1;omega
 have hL:szo s.els<szo ss:=by have:=(qL s).2;omega
 have hRs:=qK3 hR hsj;have hRi:=rightS_iff.1 hRs;refine a3 ?_;refine vy (zM3 (k:=j) rfl rfl qU65 qZ67 rfl (by omega)) ?_;refine vy (zE6 (smL s oe ob ol ce cb cl) rfl qA67 qZ67 rfl (fun i v hi=>st.chg.cell (hc i v hi) (hW.notin hgS))) ?_;refine a1 ?_;refine zA3 (zA1 [_,_,_] rfl rfl call173 rfl (kD5 s d hd hRs hks oe ob ol ce cb cl bw _ _ _ (hse.kept (hsame st.chg)) (hsb.kept (hsame st.chg)) (hsl.kept (hsame st.chg)) (by exact st.wrGet (i:=0) rfl) (Nat.le_trans hn0 st.chg.size) (fun l hl bw v F oa cap w hr hW hn hd=>ih (szo l) (by rcases hl with h|h <;> subst h <;> omega) l rfl (d+1) (by omega) (by rcases hl with h|h <;> subst h;exact hRi.2.2.2.2.2.2.2.1;exact hRi.2.2.2.2.2.2.2.2) (by rcases hl with h|h <;> subst h;exact hks.body;exact hks.els) bw v F oa cap w hr hW hn)) ?_);rintro _ w ⟨rfl,hp⟩;obtain⟨v9,st⟩:=st.wr (i:=0) rfl hp;dsimp only [zA0] at st;refine a5 ?_;refine vy (yin ((j+1:Nat):Int)) ?_;refine a2 ?_;refine zA7 (j+1,v9)  ⟨rfl,rfl,rfl,rfl,trivial⟩ (by rw [qQ7 hsj,← List.append_assoc];exact st) ?_ ?_;dsimp only;omega;dsimp only;omega;intro hc17;(try simp only [dn] at hc17);refine a4 ?_;refine zD4 (.inr rfl) results137 ?_;refine⟨_,rfl,?_⟩;refine⟨rfl,?_⟩
 first
  | (have hm : many = true := by assumption
     subst hm
     rw [qJ9 ss d j,← List.append_assoc]
     exact(st.wrDone (i:=0) rfl).over hb)
 intro hg11;(try simp only [dn] at hg11);refine a13 ?_;refine zD4 (.inr rfl) results137 ?_;refine⟨_,rfl,?_⟩;refine⟨rfl,?_⟩
 first
  | (obtain rfl : j = ss.length := by omega
     rw [List.take_length] at st
     exact st.wrDone (i:=0) rfl)
end
section
variable {S:Nat→Prop}
theorem gY1 (x:Ex) (hrec:∀ (d:Nat),d≤64→∀ (l:List Value) (w:World),ExV w S x l→Sig w→Ret Tryz.prog 46 [.agg l.toArray,.int .i64 (d:Int)] w fun v w'=>v=.bool (zB9 x d)∧Chg [] w w') (d:Nat) (hd:d≤64) (b:Bool) (o:Option Addr) (c:Nat) (w:World)
    (hV:ExV w S x (exL x o c)) (hs:Sig w) (b3:Nat) (hc:w.cell? ⟨b3,0,none⟩=some (.int .i64 (d:Int))):Ret Tryz.prog 103 [.agg (exL x o c).toArray,.bool b,.pointer (some ⟨b3,0,none⟩)] w fun v w'=>v=.bool (zB9 x (if b=true then d+1 else d))∧Chg [] w w':=by
 refine zB [_,_,_] func103 rfl ntmps103 rfl ?_;have st:=St.init w [];refine a2 ?_;refine zA3 (zT2 (l:=[_,_,_,_,_,_]) st rfl rfl rfl rfl ?_);intro b3 w hb3 st;refine a9 ?_;refine vif ?_ ?_;intro hc6;(try simp only [dn] at hc6);refine a2 ?_;refine vy (zD8 rfl qA3 (st.chg.cell hc (by simp))) ?_;refine a1 ?_;refine vmb ?_ ?_;intro hg9;(try simp only [dn] at hg9);refine yla st 0 [_,_,_,_,_,_] qA42 qZ42 ?_;refine vy (zD8 rfl qA3 (st.chg.cell hc (by simp))) ?_;refine vy (yin ((d+1:Nat):Int)) ?_;refine zA3 (zA1 [_,_] rfl rfl call46 rfl (hrec (d+1) (by omega) _ _ (hV.kept st.sm) (hs.kept st.chg)) ?_);rintro _ w ⟨rfl,cw⟩;replace st:=st.call0 cw;refine a6 ?_;refine vr1 st results103 ?_;refine⟨?_,st.chg⟩;rw [if_pos hc6];intro hg9;(try simp only [dn] at hg9);refine a10 ?_;refine vr1 st results103 ?_;refine⟨?_,st.chg⟩;rw [if_pos hc6,zV9 (by omega)];intro hc6;(try simp only [dn] at hc6);refine a4 ?_;refine yla st 0 [_,_,_,_,_,_] qA42 qZ42 ?_;refine vy (zD8 rfl qA3 (st.chg.cell hc (by simp))) ?_;refine zA3 (zA1 [_,_] rfl rfl call46 rfl (hrec d hd _ _ (hV.kept st.sm) (hs.kept st.chg)) ?_);rintro _ w ⟨rfl,cw⟩;replace st:=st.call0 cw;refine a4 ?_;refine vr1 st results103 ?_;refine⟨?_,st.chg⟩;rw [if_neg (by rw [hc6];simp)]
theorem op_one {k:Int}:qI9 k=true↔k=17∨k=18:=by unfold qI9;simp
set_option maxHeartbeats 2000000 in
theorem gY:∀ (n:Nat) (e:Ex),szo e=n→∀ (d:Nat),d≤64→∀ (l:List Value) (w:World),ExV w S e l→Sig w→Ret Tryz.prog 46 [.agg l.toArray,.int .i64 (d:Int)] w fun v w'=>v=.bool (zB9 e d)∧Chg [] w w':=by
 intro n;refine Nat.strongRecOn n fun n ih=>?_
 intro e hn d hd l w hV hs;subst hn;obtain⟨oa,cap,rfl,hr⟩:=ExV.inv hV;refine zB [_,_] func46 rfl ntmps46 rfl ?_;have st:=St.init w [];refine a2 ?_;refine zA3 (zT2 (l:=[_,_,_,_,_,_]) st rfl rfl rfl rfl ?_);intro b2 w hb2 st;refine zA3 (zT2 (l:=[_]) st rfl rfl rfl rfl ?_);intro b3 w hb3 st;refine a5 ?_;refine vy (qT7 [] [_] rfl rfl) ?_;refine a6 ?_;refine vy (zC3 rfl qU42 rfl rfl qZ38 rfl) ?_;refine yl st 1 qA38 ?_;refine a9 ?_;refine vif ?_ ?_
 ·intro hc13;(try simp only [dn] at hc13);refine a2 ?_;refine yfz 2 qU42 qZ2 ?_;refine yl st 1 qA2 ?_;refine a1 ?_;refine vmb ?_ ?_
  focus
   intro hg18;(try simp only [dn] at hg18);refine yfz 1 qU42 qZ39 ?_;refine yl st 1 qA39 ?_;refine a2 ?_;refine vmb ?_ ?_
   focus
    intro hg23;(try simp only [dn] at hg23);refine yfz 3 qU42 qZ9 ?_;refine yl st 1 qA9 ?_;refine a2 ?_;refine vmb ?_ ?_;intro hg28;(try simp only [dn] at hg28);refine yfz 4 qU42 qZ40 ?_;refine yl st 1 qA40 ?_;refine vy (zB1 rfl qU40) ?_;refine a2 ?_
    rotate_left
    intro hg28;(try simp only [dn] at hg28);refine a5 ?_
   rotate_left 2
   intro hg23;(try simp only [dn] at hg23);refine a10 ?_
  rotate_left 3
  intro hg18;(try simp only [dn] at hg18);refine a15 ?_
  all_goals
   refine a6 ?_;refine vr1 st results46 ?_;refine⟨?_,st.chg⟩;show Value.bool _=Value.bool _;congr 1;clear st;symm
   (rw [gT5 (e:=e) (by assumption) hd];clear hV hr hs ih;rw [Bool.eq_iff_iff];simp_all <;> omega)
 intro hc13;(try simp only [dn] at hc13);refine a6 ?_;refine vif ?_ ?_
 ·intro hc34;(try simp only [dn] at hc34);refine a2 ?_;refine yfz 3 qU42 qZ9 ?_;refine yl st 1 qA9 ?_;refine zA3 (zA1 [_] rfl rfl call52 rfl (qU _ _) ?_);rintro _ _ ⟨rfl,rfl⟩;refine vmb ?_ ?_
  focus
   intro hg39;(try simp only [dn] at hg39);refine yfz 1 qU42 qZ39 ?_;refine yl st 1 qA39 ?_;refine a2 ?_;refine vmb ?_ ?_
   focus
    intro hg44;(try simp only [dn] at hg44);refine yfz 2 qU42 qZ2 ?_;refine yl st 1 qA2 ?_;refine a2 ?_;refine vmb ?_ ?_;intro hg49;(try simp only [dn] at hg49);refine yfz 4 qU42 qZ40 ?_;refine yl st 1 qA40 ?_;refine vy (zB1 rfl qU40) ?_;refine a2 ?_
    rotate_left
    intro hg49;(try simp only [dn] at hg49);refine a5 ?_
   rotate_left 2
   intro hg44;(try simp only [dn] at hg44);refine a10 ?_
  rotate_left 3
  intro hg39;(try simp only [dn] at hg39);refine a15 ?_
  all_goals
   refine a6 ?_;refine vr1 st results46 ?_;refine⟨?_,st.chg⟩;show Value.bool _=Value.bool _;congr 1;clear st;symm
   (rw [gH8 (e:=e) (by assumption) hd];clear hV hr hs ih;rw [Bool.eq_iff_iff];simp_all <;> omega)
 intro hc34;(try simp only [dn] at hc34);refine a6 ?_;refine vif ?_ ?_
 ·intro hc55;(try simp only [dn] at hc55);refine a3 ?_;refine yfz 1 qU42 qZ39 ?_;refine yl st 1 qA39 ?_;refine a1 ?_;refine vmb ?_ ?_
  focus
   intro hg60;(try simp only [dn] at hg60);refine yfz 1 qU42 qZ39 ?_;refine yl st 1 qA39 ?_;refine a2 ?_;refine vmb ?_ ?_;intro hg65;(try simp only [dn] at hg65);refine a16 ?_;refine a13 ?_
   rotate_left
   focus
    intro hg65;(try simp only [dn] at hg65);refine yfz 4 qU42 qZ40 ?_;refine yl st 1 qA40 ?_;refine vy (zB1 rfl qU40) ?_;refine a2 ?_;refine vmb ?_ ?_;intro hg71;(try simp only [dn] at hg71);refine a16 ?_;refine a7 ?_
    rotate_left
    focus
     intro hg71;(try simp only [dn] at hg71);refine yfz 2 qU42 qZ2 ?_;refine yl st 1 qA2 ?_;refine a2 ?_;refine vmb ?_ ?_;intro hg76;(try simp only [dn] at hg76);refine a16 ?_;refine a2 ?_
     rotate_left
     focus
      intro hg76;(try simp only [dn] at hg76);refine yfz 3 qU42 qZ9 ?_;refine yl st 1 qA9 ?_;refine a2 ?_;refine vmb ?_ ?_;intro hg81;(try simp only [dn] at hg81);refine a13 ?_
      rotate_left
      focus
       intro hg81;(try simp only [dn] at hg81);refine yl st 0 qA3 ?_;refine a4 ?_;refine vif ?_ ?_;intro hc84;(try simp only [dn] at hc84);refine a7 ?_
       rotate_left
       focus
        intro hc84;(try simp only [dn] at hc84);obtain⟨x,hx⟩:=kR9 (l:=e.kids) (n:=e.kids.length) rfl (by omega);obtain⟨gb,go,rfl,hgS,hgl,hg⟩:=ExRow.at hr (by omega);obtain⟨o0,c0,hV0,hr0,hc0⟩:=hg 0 x hx;refine a4 ?_;refine yfz 4 qU42 qZ40 ?_;refine yl st 1 qA40 ?_;refine vy (zM3 (k:=0) rfl rfl qU40 qZ42 rfl (by omega)) ?_;refine vy (zE6 (exL x o0 c0) rfl qA42 qZ42 rfl (fun i v hi=>st.chg.cell (hc0 i v hi) (by simp))) ?_;refine zA3 (zF8 (l:=[_,_,_,_,_,_]) st rfl rfl qV42 rfl ?_);intro b6 w hb6 st;refine zA3 (zC4 st 0 [_,_,_,_,_,_] qZ42 ?_);intro w st;dsimp only [zA0,wr] at st;refine a5 ?_;refine vy (zC3 rfl qU42 rfl rfl qZ38 rfl) ?_;refine yl st 0 qA38 ?_;refine a3 ?_;refine vif ?_ ?_
        focus
         intro hc91;(try simp only [dn] at hc91);refine a2 ?_;refine yl st 1 qA3 ?_;refine vy (yin ((d+1:Nat):Int)) ?_;refine a1 ?_;refine vmb ?_ ?_;intro hg95;(try simp only [dn] at hg95);refine yla st 0 [_,_,_,_,_,_] qA42 qZ42 ?_;refine yl st 1 qA3 ?_;refine vy (yin ((d+2:Nat):Int)) ?_;refine zA3 (zA1 [_,_] rfl rfl call46 rfl (ih (szo x) (by have:=zF2 hx;have:=zL1 e;omega) x rfl (d+2) (by omega) _ _ (hV0.kept st.sm) (hs.kept st.chg)) ?_);rintro _ w ⟨rfl,cw⟩;replace st:=st.call0 cw;refine a1 ?_
         rotate_left
         intro hg95;(try simp only [dn] at hg95);refine a5 ?_
         all_goals
          refine a5 ?_
        rotate_left 2
        intro hc91;(try simp only [dn] at hc91);refine a4 ?_;refine yla st 0 [_,_,_,_,_,_] qA42 qZ42 ?_;refine yl st 1 qA3 ?_;refine vy (yin ((d+1:Nat):Int)) ?_;refine zA3 (zA1 [_,_] rfl rfl call46 rfl (ih (szo x) (by have:=zF2 hx;have:=zL1 e;omega) x rfl (d+1) (by omega) _ _ (hV0.kept st.sm) (hs.kept st.chg)) ?_);rintro _ w ⟨rfl,cw⟩;replace st:=st.call0 cw;refine a4 ?_
  rotate_left 8
  focus
   intro hg60;(try simp only [dn] at hg60);refine a5 ?_;refine yfz 4 qU42 qZ40 ?_;refine yl st 1 qA40 ?_;refine vy (zB1 rfl qU40) ?_;refine a2 ?_;refine vmb ?_ ?_;intro hg71;(try simp only [dn] at hg71);refine a16 ?_;refine a7 ?_
   rotate_left
   focus
    intro hg71;(try simp only [dn] at hg71);refine yfz 2 qU42 qZ2 ?_;refine yl st 1 qA2 ?_;refine a2 ?_;refine vmb ?_ ?_;intro hg76;(try simp only [dn] at hg76);refine a16 ?_;refine a2 ?_
    rotate_left
    focus
     intro hg76;(try simp only [dn] at hg76);refine yfz 3 qU42 qZ9 ?_;refine yl st 1 qA9 ?_;refine a2 ?_;refine vmb ?_ ?_;intro hg81;(try simp only [dn] at hg81);refine a13 ?_
     rotate_left
     focus
      intro hg81;(try simp only [dn] at hg81);refine yl st 0 qA3 ?_;refine a4 ?_;refine vif ?_ ?_;intro hc84;(try simp only [dn] at hc84);refine a7 ?_
      rotate_left
      focus
       intro hc84;(try simp only [dn] at hc84);obtain⟨x,hx⟩:=kR9 (l:=e.kids) (n:=e.kids.length) rfl (by omega);obtain⟨gb,go,rfl,hgS,hgl,hg⟩:=ExRow.at hr (by omega);obtain⟨o0,c0,hV0,hr0,hc0⟩:=hg 0 x hx;refine a4 ?_;refine yfz 4 qU42 qZ40 ?_;refine yl st 1 qA40 ?_;refine vy (zM3 (k:=0) rfl rfl qU40 qZ42 rfl (by omega)) ?_;refine vy (zE6 (exL x o0 c0) rfl qA42 qZ42 rfl (fun i v hi=>st.chg.cell (hc0 i v hi) (by simp))) ?_;refine zA3 (zF8 (l:=[_,_,_,_,_,_]) st rfl rfl qV42 rfl ?_);intro b6 w hb6 st;refine zA3 (zC4 st 0 [_,_,_,_,_,_] qZ42 ?_);intro w st;dsimp only [zA0,wr] at st;refine a5 ?_;refine vy (zC3 rfl qU42 rfl rfl qZ38 rfl) ?_;refine yl st 0 qA38 ?_;refine a3 ?_;refine vif ?_ ?_
       focus
        intro hc91;(try simp only [dn] at hc91);refine a2 ?_;refine yl st 1 qA3 ?_;refine vy (yin ((d+1:Nat):Int)) ?_;refine a1 ?_;refine vmb ?_ ?_;intro hg95;(try simp only [dn] at hg95);refine yla st 0 [_,_,_,_,_,_] qA42 qZ42 ?_;refine yl st 1 qA3 ?_;refine vy (yin ((d+2:Nat):Int)) ?_;refine zA3 (zA1 [_,_] rfl rfl call46 rfl (ih (szo x) (by have:=zF2 hx;have:=zL1 e;omega) x rfl (d+2) (by omega) _ _ (hV0.kept st.sm) (hs.kept st.chg)) ?_);rintro _ w ⟨rfl,cw⟩;replace st:=st.call0 cw;refine a1 ?_
        rotate_left
        intro hg95;(try simp only [dn] at hg95);refine a5 ?_
        all_goals
         refine a5 ?_
       rotate_left 2
       intro hc91;(try simp only [dn] at hc91);refine a4 ?_;refine yla st 0 [_,_,_,_,_,_] qA42 qZ42 ?_;refine yl st 1 qA3 ?_;refine vy (yin ((d+1:Nat):Int)) ?_;refine zA3 (zA1 [_,_] rfl rfl call46 rfl (ih (szo x) (by have:=zF2 hx;have:=zL1 e;omega) x rfl (d+1) (by omega) _ _ (hV0.kept st.sm) (hs.kept st.chg)) ?_);rintro _ w ⟨rfl,cw⟩;replace st:=st.call0 cw;refine a4 ?_
  all_goals
   refine a2 ?_;refine vr1 st results46 ?_;refine⟨?_,st.chg⟩;show Value.bool _=Value.bool _;congr 1;clear st;symm
   first
    | exact qO6 (e:=e) (by assumption) (by first|exact .inl (by omega)|exact .inr (.inr (.inl (by assumption)))|exact .inr (.inr (.inr (by assumption)))|exact .inr (.inl (by simp [qI9];omega)))
    | exact kT0 (e:=e) (by assumption) (by omega)
    | (rw [qT8 (e := e) (by assumption) hd (qI7 (by omega) hx), op_one.2 (by omega)]; first | rw [if_pos (by assumption)] | rw [if_neg (by assumption)]
       first|(rw [zV9 (e:=x) (by omega)];simp)|(clear hV hr hs ih hg hc0 hV0 hr0;simp_all))
 intro hc55;(try simp only [dn] at hc55);refine a6 ?_;refine vif ?_ ?_
 ·intro hc105;(try simp only [dn] at hc105);refine a3 ?_;refine yfz 1 qU42 qZ39 ?_;refine yl st 1 qA39 ?_;refine zA3 (zA1 [_] rfl rfl call104 rfl (gP7 _ _) ?_);rintro _ _ ⟨rfl,rfl⟩;refine a1 ?_;refine vmb ?_ ?_;intro hg111;(try simp only [dn] at hg111);refine a16 ?_;refine a11 ?_;refine vr1 st results46 ?_;refine⟨?_,st.chg⟩;show Value.bool _=Value.bool _;congr 1;clear st;symm;exact zR8 (e:=e) (by assumption) (by exact .inr (.inl (by assumption)));intro hg111;(try simp only [dn] at hg111);refine yfz 4 qU42 qZ40 ?_;refine yl st 1 qA40 ?_;refine vy (zB1 rfl qU40) ?_;refine a2 ?_;refine vmb ?_ ?_;intro hg117;(try simp only [dn] at hg117);refine a16 ?_;refine a5 ?_;refine vr1 st results46 ?_;refine⟨?_,st.chg⟩;show Value.bool _=Value.bool _;congr 1;clear st;symm;exact zR8 (e:=e) (by assumption) (by exact .inl (by omega));intro hg117;(try simp only [dn] at hg117);refine yfz 2 qU42 qZ2 ?_;refine yl st 1 qA2 ?_;refine a2 ?_;refine vmb ?_ ?_;intro hg122;(try simp only [dn] at hg122);refine a16 ?_;refine vr1 st results46 ?_;refine⟨?_,st.chg⟩;show Value.bool _=Value.bool _;congr 1;clear st;symm;exact zR8 (e:=e) (by assumption) (by exact .inr (.inr (.inl (by assumption))));intro hg122;(try simp only [dn] at hg122);refine yfz 3 qU42 qZ9 ?_;refine yl st 1 qA9 ?_;refine a4 ?_;refine vif ?_ ?_;intro hc126;(try simp only [dn] at hc126);refine a9 ?_;refine vr1 st results46 ?_;refine⟨?_,st.chg⟩;show Value.bool _=Value.bool _;congr 1;clear st;symm;exact zR8 (e:=e) (by assumption) (by exact .inr (.inr (.inr (by assumption))));intro hc126;(try simp only [dn] at hc126);have hk2:e.kids.length=2:=by omega
  obtain⟨x,hx⟩:=kR9 hk2 (by omega);obtain⟨y,hy⟩:=get1 hk2;obtain⟨gb,go,rfl,hgS,hgl,hg⟩:=ExRow.at hr (by omega);obtain⟨o0,c0,hV0,hr0,hc0⟩:=hg 0 x hx;obtain⟨o1,c1,hV1,hr1,hc1⟩:=hg 1 y hy;refine a4 ?_;refine yfz 1 qU42 qZ39 ?_;refine yl st 1 qA39 ?_;refine zA3 (zA1 [_] rfl rfl call105 rfl (zR3 _ _ (hs.kept st.chg)) ?_);rintro _ _ ⟨rfl,rfl⟩;refine a4 ?_;refine jJ1 Tryz.mixed (.take 0 (.take 1 (.take 2 (.take 3 (.take 4 (.take 5 (.take 6 (.take 7 (.two 8 9 (.one 9 (.one 10 (.one 11 .done))) (.one 8 (.one 10 (.one 11 .done)))))))))))) st ?_;clear st;intro w st hS;refine dfz hS 4 qU42 qZ40 ?_;refine dld hS 1 qA40 ?_;refine zD9 rfl rfl rfl hS (fun w st=>zM3 (k:=0) rfl rfl qU40 qZ42 rfl (by omega)) ?_;refine zD9 rfl rfl rfl hS (fun w st=>zE6 (exL x o0 c0) rfl qA42 qZ42 rfl (fun i v hi=>st.chg.cell (hc0 i v hi) (by simp))) ?_;refine dfz hS 4 qU42 qZ40 ?_;refine dld hS 1 qA40 ?_;refine zD9 rfl rfl rfl hS (fun w st=>zM3 (k:=1) rfl rfl qU40 qZ42 rfl (by omega)) ?_;refine zD9 rfl rfl rfl hS (fun w st=>zE6 (exL y o1 c1) rfl qA42 qZ42 rfl (fun i v hi=>st.chg.cell (hc1 i v hi) (by simp))) ?_;refine zU1 rfl rfl ?_ ?_;refine(zF8 (l:=[_,_,_,_,_,_]) st rfl rfl qV42 rfl ?_);intro b8 w hb8 st;refine zB2 st.dr ?_;intro hS;refine zG rfl (zF8 (l:=[_,_,_,_,_,_]) st rfl rfl qV42 rfl ?_);intro b9 w hb9 st
  rotate_left
  refine(zF8 (l:=[_,_,_,_,_,_]) st rfl rfl qV42 rfl ?_);intro b9 w hb9 st;refine zB2 st.dr ?_;intro hS;refine zG rfl (zF8 (l:=[_,_,_,_,_,_]) st rfl rfl qV42 rfl ?_);intro b8 w hb8 st
  all_goals
   refine zB2 st.dr ?_;intro hS
   first
   | refine zG rfl (zC4 st 0 [_,_,_,_,_,_] qZ42 ?_)
   | refine zG rfl (zC4 st 1 [_,_,_,_,_,_] qZ42 ?_)
   intro w st;dsimp only [zA0,wr] at st;refine zB2 st.dr ?_;intro hS
   first
   | refine zG rfl (zC4 st 0 [_,_,_,_,_,_] qZ42 ?_)
   | refine zG rfl (zC4 st 1 [_,_,_,_,_,_] qZ42 ?_)
   intro w st;dsimp only [zA0,wr] at st;refine zB2 st.dr ?_;intro hS;refine zV (zA6 (zC5 ?_));refine qJ5 Tryz.mixed [Yt 0,Yt 1,Yt 2,Yt 3,Yt 4,Yt 5,Yt 6,Yt 7,Yt 9,Nt 8,Yt 10,Yt 11,Nt 12,Yt 13,Yt 14,Yt 15,Yt 16,Yt 17,Yt 18,Yt 19,Yt 20,Yt 21,Yt 23,Nt 22,Yt 24,Yt 25,Nt 26,Yt 27,Yt 28] st ?_;clear st;intro w st hS;refine pm hS ?_;refine zA2 rfl rfl rfl hS (fun w st=>(by first|exact zS7 (vs:=[_,_,_,_,_,_]) st 0 rfl qA42 qZ42 rfl rfl|exact zS7 (vs:=[_,_,_,_,_,_]) st 1 rfl qA42 qZ42 rfl rfl)) ?_;refine pf0 hS qU42 qZ38 ?_;refine zA2 rfl rfl rfl hS (fun w st=>(by first|exact qE6 st 0 rfl qA38 rfl rfl|exact qE6 st 1 rfl qA38 rfl rfl)) ?_;refine zA2 rfl rfl rfl hS (fun w st=>zK5 rfl rfl) ?_;refine zL4 rfl rfl rfl hS rfl ?_ ?_;intro hg143;(try simp only [dn] at hg143);refine pfz hS 1 qU42 qZ39 ?_;refine zA2 rfl rfl rfl hS (fun w st=>(by first|exact qE6 st 0 rfl qA39 rfl rfl|exact qE6 st 1 rfl qA39 rfl rfl)) ?_;refine pm hS ?_;refine zD0 rfl (zA1 [_] rfl rfl call105 rfl (zR3 _ _ (hs.kept st.chg)) ?_);rintro _ _ ⟨rfl,rfl⟩;refine zA9 (by exact st) ?_;intro hS;refine zA2 rfl rfl rfl hS (fun w st=>zM5 rfl rfl) ?_;refine zA2 rfl rfl rfl hS (fun w st=>zJ0 rfl rfl) ?_
   rotate_left
   intro hg143;(try simp only [dn] at hg143);(iterate 3 refine zF5 rfl rfl rfl hS ?_);refine zD0 rfl (zO6 rfl rfl (zA9 hS (fun hS=>?_)));refine zF5 rfl rfl rfl hS ?_;refine zA2 rfl rfl rfl hS (fun w st=>zN rfl rfl) ?_
   all_goals
    refine zD0 rfl (zJ2 [_,_] rfl rfl rfl call103 rfl (gY1 _ (fun d hd l w hV hs=>ih (szo x) (by have:=zF2 hx;have:=zL1 e;omega) x rfl d hd l w hV hs) d hd _ _ _ _ (hV0.kept st.sm) (hs.kept st.chg) _ (by exact zD7 (st.res (i:=2) rfl) rfl)) ?_);rintro _ w ⟨rfl,cw⟩;replace st:=st.call0 cw;refine zA9 (by exact st) ?_;intro hS;refine zL4 rfl rfl rfl hS rfl ?_ ?_
    focus
     intro hg151;(try simp only [dn] at hg151);refine pm hS ?_;refine zA2 rfl rfl rfl hS (fun w st=>(by first|exact zS7 (vs:=[_,_,_,_,_,_]) st 0 rfl qA42 qZ42 rfl rfl|exact zS7 (vs:=[_,_,_,_,_,_]) st 1 rfl qA42 qZ42 rfl rfl)) ?_;refine pf0 hS qU42 qZ38 ?_;refine zA2 rfl rfl rfl hS (fun w st=>(by first|exact qE6 st 0 rfl qA38 rfl rfl|exact qE6 st 1 rfl qA38 rfl rfl)) ?_;refine zA2 rfl rfl rfl hS (fun w st=>zK5 rfl rfl) ?_;refine zL4 rfl rfl rfl hS rfl ?_ ?_;intro hg157;(try simp only [dn] at hg157);refine pfz hS 1 qU42 qZ39 ?_;refine zA2 rfl rfl rfl hS (fun w st=>(by first|exact qE6 st 0 rfl qA39 rfl rfl|exact qE6 st 1 rfl qA39 rfl rfl)) ?_;refine pm hS ?_;refine zD0 rfl (zA1 [_] rfl rfl call105 rfl (zR3 _ _ (hs.kept st.chg)) ?_);rintro _ _ ⟨rfl,rfl⟩;refine zA9 (by exact st) ?_;intro hS;refine zA2 rfl rfl rfl hS (fun w st=>zT9 rfl rfl) ?_;refine zA2 rfl rfl rfl hS (fun w st=>zJ0 rfl rfl) ?_
     rotate_left
     intro hg157;(try simp only [dn] at hg157);(iterate 3 refine zF5 rfl rfl rfl hS ?_);refine zD0 rfl (zO6 rfl rfl (zA9 hS (fun hS=>?_)));refine zF5 rfl rfl rfl hS ?_;refine zA2 rfl rfl rfl hS (fun w st=>zN rfl rfl) ?_
     all_goals
      refine zD0 rfl (zJ2 [_,_] rfl rfl rfl call103 rfl (gY1 _ (fun d hd l w hV hs=>ih (szo y) (by have:=zF2 hy;have:=zL1 e;omega) y rfl d hd l w hV hs) d hd _ _ _ _ (hV1.kept st.sm) (hs.kept st.chg) _ (by exact zD7 (st.res (i:=2) rfl) rfl)) ?_);rintro _ w ⟨rfl,cw⟩;replace st:=st.call0 cw;refine zA9 (by exact st) ?_;intro hS;refine zA2 rfl rfl rfl hS (fun w st=>zJ0 rfl rfl) ?_
    rotate_left 2
    intro hg151;(try simp only [dn] at hg151);(iterate 9 refine zF5 rfl rfl rfl hS ?_);refine zD0 rfl (zO6 rfl rfl (zA9 hS (fun hS=>?_)));(iterate 2 refine zF5 rfl rfl rfl hS ?_);refine zD0 rfl (zO6 rfl rfl (zA9 hS (fun hS=>?_)));refine zA2 rfl rfl rfl hS (fun w st=>zN rfl rfl) ?_
    all_goals
     refine zA2 rfl rfl rfl hS (fun w st=>qL1 rfl) ?_;refine zC6 (zA6 (zA8 (zA4 (zA ?_))));refine vr1 st results46 ?_;refine⟨?_,st.chg⟩;show Value.bool _=Value.bool _;congr 1;clear st;symm
     first
      | (rw [gG2 (e := e) (by assumption) hd (qT3 hk2 hx hy)]
         clear hV hr hs ih hg hc0 hc1 hV0 hV1 hr0 hr1
         first|rw [jA (x:=x) (by assumption)]|rw [gQ4 (x:=x) (by assumption)]
         first|rw [kY6 (x:=y) (by assumption)]|rw [gQ4 (x:=y) (by assumption)]|skip
         simp_all)
 intro hc105;(try simp only [dn] at hc105);refine a9 ?_;refine vr1 st results46 ?_;refine⟨?_,st.chg⟩;show Value.bool _=Value.bool _;congr 1;clear st;symm;exact gF6 (e:=e) (by assumption) (by assumption) (by assumption) (by assumption)
end
section
variable {S:Nat→Prop}
set_option maxHeartbeats 1000000 in
theorem qY4 (ds:List Dc) (oa:Option Addr) (cap:Nat) (b:Bool) (w:World) (hD:DcRow w S oa ds) (hl:ds.length≤maxLen):Ret Tryz.prog 92 [.slice oa ds.length cap,.bool b] w fun v w'=>v=.bool (ds.all (zQ1 b))∧Chg [] w w':=by
 refine zB [_,_] func92 rfl ntmps92 rfl ?_;have st:=St.init w [];obtain⟨w0,rfl⟩:∃ w0,w0=w:=⟨_,rfl⟩
 unfold maxLen at hl;refine a9 ?_;refine vy (zB1 rfl qU23) ?_;refine a4 ?_;refine zC (w0:=w0) (M:=[]) (fun (j:Nat)=>[(1,.bool b),(7,.slice oa ds.length cap),(8,.int .i64 (ds.length:Int)),(9,.int .i64 (j:Int))]) (fun _=>[]) (fun j _=>j≤ds.length∧(ds.take j).all (zQ1 b)=true) (fun j=>ds.length - j) 0 ⟨rfl,rfl,rfl,rfl,trivial⟩ st ⟨by omega,by simp⟩ ?_;rintro j w ⟨hj,hall⟩ st;refine a6 ?_;refine vif ?_ ?_;intro hc10;(try simp only [dn] at hc10);obtain⟨x,hx⟩:∃ x,ds[j]?=some x:=⟨_,List.getElem?_eq_getElem (by omega)⟩
 obtain⟨gb,go,rfl,hgS,hgl,hg⟩:=DcRow.at hD (by omega);have hc:=hg j x hx;refine a6 ?_;refine vy (zM3 (k:=j) rfl rfl qU23 qZ63 rfl (by omega)) ?_;refine vy (zE6 (dcL x) rfl qA63 qZ63 rfl (fun i v hi=>st.chg.cell (hc i v hi) (by simp))) ?_;refine zA3 (zF8 (l:=[_,_,_]) st rfl rfl qV63 rfl ?_);intro b6 w hb6 st
 first
 | refine zA3 (zC4 st 0 [_,_,_] qZ63 ?_)
 intro w st;dsimp only [zA0,wr] at st;refine a4 ?_;refine vy (zC3 rfl qU63 rfl rfl qZ9 rfl) ?_;refine yl st 0 qA9 ?_;refine zA3 (zA1 [_] rfl rfl call52 rfl (qU _ _) ?_);rintro _ _ ⟨rfl,rfl⟩;refine a1 ?_;refine vmb ?_ ?_;intro hg17;(try simp only [dn] at hg17);refine a16 ?_;refine a14 ?_;refine vr1 st results92 ?_;refine⟨?_,st.chg⟩
 (rw [zR7 (p:=zQ1 b) hx (by clear st hc hg hD;unfold zQ1;cases b <;> simp_all)])
 intro hg17;(try simp only [dn] at hg17);refine a1 ?_;refine vmb ?_ ?_;intro hg19;(try simp only [dn] at hg19);refine yfz 1 qU63 qZ2 ?_;refine yl st 0 qA2 ?_;refine a3 ?_;refine vmb ?_ ?_;intro hg25;(try simp only [dn] at hg25);refine a16 ?_;refine a6 ?_;refine vr1 st results92 ?_;refine⟨?_,st.chg⟩
 (rw [zR7 (p:=zQ1 b) hx (by clear st hc hg hD;unfold zQ1;cases b <;> simp_all)])
 intro hg25;(try simp only [dn] at hg25);refine a2 ?_;refine vmb ?_ ?_;intro hg28;(try simp only [dn] at hg28);refine yfz 1 qU63 qZ2 ?_;refine yl st 0 qA2 ?_;refine a5 ?_;refine vif ?_ ?_;intro hc33;(try simp only [dn] at hc33);refine a11 ?_;refine vr1 st results92 ?_;refine⟨?_,st.chg⟩
 (rw [zR7 (p:=zQ1 b) hx (by clear st hc hg hD;unfold zQ1;cases b <;> simp_all)])
 intro hc33;(try simp only [dn] at hc33);refine a4 ?_;refine vy (yin ((j+1:Nat):Int)) ?_;refine a2 ?_;refine zA7 (j+1)  ⟨rfl,rfl,rfl,rfl,trivial⟩ (st.dr) ?_ ?_;exact⟨by omega,zO0 hall hx (by clear st hc hg hD;unfold zQ1;cases b <;> simp_all)⟩;omega;intro hg28;(try simp only [dn] at hg28);refine a12 ?_;refine vy (yin ((j+1:Nat):Int)) ?_;refine a2 ?_;refine zA7 (j+1)  ⟨rfl,rfl,rfl,rfl,trivial⟩ (st.dr) ?_ ?_;exact⟨by omega,zO0 hall hx (by clear st hc hg hD;unfold zQ1;cases b <;> simp_all)⟩;omega;intro hg19;(try simp only [dn] at hg19);refine a8 ?_;refine vmb ?_ ?_;intro hg28;(try simp only [dn] at hg28);refine yfz 1 qU63 qZ2 ?_;refine yl st 0 qA2 ?_;refine a5 ?_;refine vif ?_ ?_;intro hc33;(try simp only [dn] at hc33);refine a11 ?_;refine vr1 st results92 ?_;refine⟨?_,st.chg⟩
 (rw [zR7 (p:=zQ1 b) hx (by clear st hc hg hD;unfold zQ1;cases b <;> simp_all)])
 intro hc33;(try simp only [dn] at hc33);refine a4 ?_;refine vy (yin ((j+1:Nat):Int)) ?_;refine a2 ?_;refine zA7 (j+1)  ⟨rfl,rfl,rfl,rfl,trivial⟩ (st.dr) ?_ ?_;exact⟨by omega,zO0 hall hx (by clear st hc hg hD;unfold zQ1;cases b <;> simp_all)⟩;omega;intro hg28;(try simp only [dn] at hg28);refine a12 ?_;refine vy (yin ((j+1:Nat):Int)) ?_;refine a2 ?_;refine zA7 (j+1)  ⟨rfl,rfl,rfl,rfl,trivial⟩ (st.dr) ?_ ?_;exact⟨by omega,zO0 hall hx (by clear st hc hg hD;unfold zQ1;cases b <;> simp_all)⟩;omega;intro hc10;(try simp only [dn] at hc10);refine a11 ?_;refine vr1 st results92 ?_;refine⟨?_,st.chg⟩;rw [qK4 hall (by omega)]
set_option maxHeartbeats 1000000 in
theorem gC9 (ds:List Dc) (oa:Option Addr) (cap:Nat) (w:World) (hD:DcRow w S oa ds) (hl:ds.length≤maxLen):Ret Tryz.prog 121 [.slice oa ds.length cap] w fun v w'=>v=.bool (ds.all (zQ1 false))∧Chg [] w w':=by
 refine zB [_] func121 rfl ntmps121 rfl ?_;have st:=St.init w [];obtain⟨w0,rfl⟩:∃ w0,w0=w:=⟨_,rfl⟩
 unfold maxLen at hl;refine a12 ?_;refine zC (w0:=w0) (M:=[]) (fun (j:Nat)=>[(0,.slice oa ds.length cap),(3,.int .i64 (j:Int))]) (fun _=>[]) (fun j _=>j≤ds.length∧(ds.take j).all (zQ1 false)=true) (fun j=>ds.length - j) 0 ⟨rfl,rfl,trivial⟩ st ⟨by omega,by simp⟩ ?_;rintro j w ⟨hj,hall⟩ st;refine a5 ?_;refine vy (zB1 rfl qU23) ?_;refine a3 ?_;refine vif ?_ ?_;intro hc7;(try simp only [dn] at hc7);obtain⟨x,hx⟩:∃ x,ds[j]?=some x:=⟨_,List.getElem?_eq_getElem (by omega)⟩
 obtain⟨gb,go,rfl,hgS,hgl,hg⟩:=DcRow.at hD (by omega);have hc:=hg j x hx;refine a8 ?_;refine vy (zM3 (k:=j) rfl rfl qU23 qZ63 rfl (by omega)) ?_;refine vy (zC3 rfl qU63 rfl rfl qZ9 rfl) ?_;refine vy (zD8 rfl qA9 (st.chg.cell (hc 0 _ rfl) (by simp))) ?_;refine zA3 (zA1 [_] rfl rfl call58 rfl (zM9 _ _) ?_);rintro _ _ ⟨rfl,rfl⟩;refine a1 ?_;refine vmb ?_ ?_;intro hg17;(try simp only [dn] at hg17);refine a16 ?_;refine a5 ?_;refine vr1 st results121 ?_;refine⟨?_,st.chg⟩
 (rw [zR7 (p:=zQ1 false) hx (by clear st hc hg hD;unfold zQ1;simp_all)])
 intro hg17;(try simp only [dn] at hg17);refine a2 ?_;refine vy (zM3 (k:=j) rfl rfl qU23 qZ63 rfl (by omega)) ?_;refine vy (zU9 (k:=1) rfl qU63 rfl rfl qZ2 rfl) ?_;refine vy (zD8 rfl qA2 (st.chg.cell (hc 1 _ rfl) (by simp))) ?_;refine a4 ?_;refine vif ?_ ?_;intro hc24;(try simp only [dn] at hc24);refine a11 ?_;refine vr1 st results121 ?_;refine⟨?_,st.chg⟩
 (rw [zR7 (p:=zQ1 false) hx (by clear st hc hg hD;unfold zQ1;simp_all)])
 intro hc24;(try simp only [dn] at hc24);refine a5 ?_;refine vy (yin ((j+1:Nat):Int)) ?_;refine a2 ?_;refine zA7 (j+1)  ⟨rfl,rfl,trivial⟩ (st.dr) ?_ ?_;exact⟨by omega,zO0 hall hx (by clear st hc hg hD;unfold zQ1;simp_all)⟩;omega;intro hc7;(try simp only [dn] at hc7);refine a11 ?_;refine vr1 st results121 ?_;refine⟨?_,st.chg⟩;rw [qK4 hall (by omega)]
theorem gF1 (l:List UInt8) (b:Bool) (w:World):Ret Tryz.prog 149 [str l,.bool b] w fun v w'=>v=.bool (zR9 b l)∧w'=w:=kH8 l b w
theorem kB6 (k:Int) (hk:u8 k) (w:World):Ret Tryz.prog 148 [.int .u8 k] w fun v w'=>v=.tuple #[.agg (jF7 k).toArray,.bool (decide (1≤k∧k≤7))]∧Chg [] w w':=by
 refine zB [_] func148 rfl ntmps148 rfl ?_;have st:=St.init w [];refine a2 ?_;refine zA3 (zF8 (l:=[_,_,_,_,_]) st rfl rfl zeroValue187 rfl ?_);intro b2 w hb2 st;refine a5 ?_;refine vy (ybd (.agg #[_,_,_,_,_]) [(0,_),(2,_)]) ?_;refine vy (ybd (.agg #[_,_,_,_,_]) [(0,_),(1,_),(2,_)]) ?_;refine vy (ybd (.agg #[_,_,_,_,_]) [(2,_),(3,_),(4,_)]) ?_;refine vy (ybd (.agg #[_,_,_,_,_]) [(2,_),(3,_)]) ?_;refine vy (ybd (.agg #[_,_,_,_,_]) [(0,_),(3,_)]) ?_;refine vy (ybd (.agg #[_,_,_,_,_]) [(2,_)]) ?_;refine vy (ybd (.agg #[_,_,_,_,_]) []) ?_;refine vy (ybd (.agg #[_,_,_,_,_,_,_,_,_,_,_,_,_,_,_,_,_,_,_,_,_,_,_,_,_,_,_,_,_,_,_,_,_,_,_,_,_,_,_,_]) [(1,_),(2,_),(3,_),(4,_),(5,_),(6,_),(7,_)]) ?_;refine zA3 (zF8 (l:=[_,_,_,_,_,_,_,_,_,_,_,_,_,_,_,_,_,_,_,_,_,_,_,_,_,_,_,_,_,_,_,_,_,_,_,_,_,_,_,_]) st rfl rfl zeroValue221 rfl ?_);intro b4 w hb4 st;refine zA3 (zC4 st 0 [_,_,_,_,_,_,_,_,_,_,_,_,_,_,_,_,_,_,_,_,_,_,_,_,_,_,_,_,_,_,_,_,_,_,_,_,_,_,_,_] sizeOf221 ?_);intro w st;dsimp only [zA0,wr] at st;refine a7 ?_;refine vmb ?_ ?_;intro hg15;(try simp only [dn] at hg15);refine a9 ?_;refine vy (ybd (.agg #[_,_,_,_,_]) []) ?_;refine zA3 (zC4 st 1 [_,_,_,_,_] qZ187 ?_);intro w st;dsimp only [zA0,wr] at st;refine a5 ?_;refine zG3 st (.inl rfl) results148 (by exact .cell 1 rfl rfl isAgg187 qZ187) (.tmp rfl) ?_;refine⟨_,rfl,?_⟩;refine⟨?_,st.chg⟩;have e1:qF6 k=false:=by unfold qF6;simp;omega
 have e2:decide (k=2)=false:=by simp;omega
 have e3:zW9 k=false:=by unfold zW9;simp;omega
 have e4:qA1 k=false:=by unfold qA1;simp;omega
 have e5:decide (k=3)=false:=by simp;omega
 have e6:decide (1≤k∧k≤7)=false:=by simp;omega
 simp only [jF7,e1,e2,e3,e4,e5,e6];intro hg15;(try simp only [dn] at hg15);refine a1 ?_;refine vy (qB7 rfl qU3 underlying64 (gX2 k (by have h1:=hk.1;have h2:=hk.2;omega):_=k)) ?_;refine a4 ?_;refine vif ?_ ?_;intro hc19;(try simp only [dn] at hc19);refine a2 ?_;refine vy (ybd (.agg #[_,_,_,_,_]) []) ?_;refine zA3 (zC4 st 1 [_,_,_,_,_] qZ187 ?_);intro w st;dsimp only [zA0,wr] at st;refine a5 ?_;refine zG3 st (.inl rfl) results148 (by exact .cell 1 rfl rfl isAgg187 qZ187) (.tmp rfl) ?_;refine⟨_,rfl,?_⟩;refine⟨?_,st.chg⟩;have e1:qF6 k=false:=by unfold qF6;simp;omega
 have e2:decide (k=2)=false:=by simp;omega
 have e3:zW9 k=false:=by unfold zW9;simp;omega
 have e4:qA1 k=false:=by unfold qA1;simp;omega
 have e5:decide (k=3)=false:=by simp;omega
 have e6:decide (1≤k∧k≤7)=false:=by simp;omega
 simp only [jF7,e1,e2,e3,e4,e5,e6];intro hc19;(try simp only [dn] at hc19);refine a4 ?_;obtain⟨m,rfl⟩:∃ m:Nat,k=(m:Int):=⟨k.toNat,by have:=hk.1;omega⟩
 refine a1 ?_;refine vy (gB0 (k:=m) rfl rfl underlying221 qZ187 rfl (by omega)) ?_;have hq:=jB4 (m:=m) (st.res (i:=0) rfl) (by omega);refine vy (zE6 (jF7 m) rfl isAgg187 qZ187 rfl (jB4 (st.res (i:=0) rfl) (by omega))) ?_;refine zA3 (zC4 st 1 [_,_,_,_,_] qZ187 ?_);intro w st;dsimp only [zA0,wr] at st;refine a4 ?_;refine zG3 st (.inl rfl) results148 (by exact .cell 1 rfl rfl isAgg187 qZ187) (.tmp rfl) ?_;refine⟨_,rfl,?_⟩;refine⟨?_,st.chg⟩;have e6:decide (1≤(m:Int)∧(m:Int)≤7)=true:=by simp;omega
 rw [e6]
set_option maxHeartbeats 4000000 in
theorem kP8:∀ (n:Nat) (ss:List Sm),szo ss=n→∀ (d:Nat),d≤65→(ss.length=0∨d≤64)→∀ (oa:Option Addr) (cap:Nat) (w:World),SmRow w S oa ss→qO ss→Sig w→Ret Tryz.prog 93 [.slice oa ss.length cap,.int .i64 (d:Int)] w fun v w'=>v=.bool (zE3 ss d)∧Chg [] w w':=by
 intro n
 refine Nat.strongRecOn n fun n ih=>?_
 intro ss hn d hd0 hd oa cap w hr hok hsg
 subst hn
 have hssl:=hok.1
 refine zB [_,_] func93 rfl ntmps93 rfl ?_
 have st:=St.init w []
 obtain⟨w0,rfl⟩:∃ w0,w0=w:=⟨_,rfl⟩
 refine sr ?_
 refine ya ?_
 refine et (vk2 0 1 (zC5 (sr ?_)))
 refine ym ?_
 refine vy (zB1 rfl qU65) ?_
 refine ym ?_
 refine et (vk4 1 9 10 11 (zD6 ?_))
 refine zC (w0:=w0) (M:=[]) (fun (j:Nat)=>[(1,.int .i64 (d:Int)),(9,.slice oa ss.length cap),(10,.int .i64 (ss.length:Int)),(11,.int .i64 (j:Int))]) (fun _=>[]) (fun j _=>j≤ss.length∧(ss.take j).all (zH9 · d)=true) (fun j=>ss.length - j) 0 ⟨rfl,rfl,rfl,rfl,trivial⟩ st ⟨by omega,by simp⟩ ?_
 rintro j w ⟨hj,hall⟩ st
 refine sr ?_
 refine vy (zM5 rfl rfl) ?_
 refine et (vk5 1 9 10 11 12 (zC5 ?_))
 refine vif ?_ ?_
 ·intro hc12
  try simp only [dn] at hc12
  obtain⟨s,hsj⟩:∃ s,ss[j]?=some s:=⟨_,List.getElem?_eq_getElem (by omega)⟩
  obtain⟨gb,go,rfl,hgS,hgl,hg⟩:=SmRow.at hr (by omega)
  obtain⟨oe,ob,ol,ce,cb,cl,hsV,hse,hsb,hsl,hc⟩:=hg j s hsj
  have hks:=hok.2 j s hsj
  have hz:=zF2 hsj
  have hB:szo s.body<szo ss:=by have:=(qL s).1;omega
  have hL:szo s.els<szo ss:=by have:=(qL s).2;omega
  have hd64:d≤64:=by omega
  refine kt (vk4 1 9 10 11 (zC5 (zD6 (sr ?_))))
  refine vy (zM3 (k:=j) rfl rfl qU65 qZ67 rfl (by omega)) ?_
  refine vy (zE6 (smL s oe ob ol ce cb cl) rfl qA67 qZ67 rfl (fun i v hi=>st.chg.cell (hc i v hi) (by simp))) ?_
  refine zA3 (zF8 (l:=[_,_,_,_,_,_,_]) st rfl rfl qV67 rfl ?_)
  intro b6 w hb6 st
  refine zA3 (zC4 st 0 [_,_,_,_,_,_,_] qZ67 ?_)
  intro w st;dsimp only [zA0,wr] at st
  refine et (vk5 1 6 9 10 11 (sr ?_))
  refine vy (zC3 rfl qU67 rfl rfl qZ64 rfl) ?_
  refine yl st 0 qA64 ?_
  refine zA3 (zA1 [_] rfl rfl call148 rfl (kB6 s.k hks.k _) ?_)
  rintro _ w ⟨rfl,cw⟩
  replace st:=st.call0 cw
  refine ym ?_
  iterate 2 refine vy (zV7 rfl rfl) ?_
  refine zA3 (zF8 (l:=[_,_,_,_,_]) st rfl rfl zeroValue187 rfl ?_)
  intro b7 w hb7 st
  refine zA3 (zC4 st 0 [_,_,_,_,_] qZ187 ?_)
  intro w st;dsimp only [zA0,wr] at st
  refine ya ?_
  refine et (vk7 1 6 7 8 9 10 11 ?_)
  refine zL2 (w0:=w0) (M:=[]) (fun (_:Unit)=>[(1,.int .i64 (d:Int)),(6,.pointer (some ⟨b6,0,none⟩)),(7,.pointer (some ⟨b7,0,none⟩)),(9,.slice (some ⟨gb,go,none⟩) ss.length cap),(10,.int .i64 (ss.length:Int)),(11,.int .i64 (j:Int))]) (fun _=>[.blk b7 (.cells (jF7 s.k).toArray 187 (0,0)),.blk b6 (.cells (smL s oe ob ol ce cb cl).toArray 67 (0,0))]) (fun _ _=>(1≤s.k∧s.k≤7)∧zR9 (qF6 s.k) s.nm=true∧zR9 (decide (s.k=2)) s.other=true∧(qA1 s.k=true∨s.body.length=0)∧(s.k=3∨s.els.length=0)) ?_ ?_
  ·refine zC5 ?_
   refine zB4 ?_
   refine ym ?_
   refine vy (zG5 rfl) ?_
   refine vmb ?_ ?_
   ·intro hg23
    try simp only [dn] at hg23
    iterate 6 refine vsk ?_
    refine ypt ?_
    refine ym ?_
    iterate 6 refine vsk ?_
    refine ypt ?_
    refine ym ?_
    iterate 9 refine vsk ?_
    refine ypt ?_
    refine ym ?_
    iterate 9 refine vsk ?_
    refine ypt ?_
    refine et (vk7 1 6 7 9 10 11 60 ?_)
    refine zC9 rfl ?_
    refine sr ?_
    refine ya ?_
    refine et (vk1 4 (zA8 (zA (zA4 (zA (zA (zA4 (zA ?_))))))))
    refine vr1 st results93 ?_
    refine⟨?_,st.chg⟩
    first
     | (refine zI1 hsj fun hR => ?_
        obtain⟨r1,r2,r3,r4,r5,r6,r7,r8,r9⟩:=rightS_iff.1 hR
        clear st hsV hse hsb hsl hc hg hr ih hok hks hall
        omega)
   intro hg23
   try simp only [dn] at hg23
   refine yfz 1 qU67 qZ9 ?_
   refine yl st 1 qA9 ?_
   refine vy (zC3 rfl qU187 rfl rfl qZ4 rfl) ?_
   refine yl st 0 qA4 ?_
   refine zA3 (zA1 [_,_] rfl rfl call149 rfl (gF1 _ _ _) ?_)
   rintro _ _ ⟨rfl,rfl⟩
   refine vy (zG5 rfl) ?_
   refine ypf ?_
   refine vmb ?_ ?_
   ·intro hg31
    try simp only [dn] at hg31
    iterate 6 refine vsk ?_
    refine ypt ?_
    refine ym ?_
    iterate 9 refine vsk ?_
    refine ypt ?_
    refine ym ?_
    iterate 9 refine vsk ?_
    refine ypt ?_
    refine et (vk7 1 6 7 9 10 11 60 ?_)
    refine zC9 rfl ?_
    refine sr ?_
    refine ya ?_
    refine et (vk1 4 (zA8 (zA (zA4 (zA (zA (zA4 (zA ?_))))))))
    refine vr1 st results93 ?_
    refine⟨?_,st.chg⟩
    first
     | (refine zI1 hsj fun hR => ?_
        obtain⟨r1,r2,r3,r4,r5,r6,r7,r8,r9⟩:=rightS_iff.1 hR
        clear st hsV hse hsb hsl hc hg hr ih hok hks hall
        (simp_all;done))
   intro hg31
   try simp only [dn] at hg31
   refine yfz 2 qU67 qZ9 ?_
   refine yl st 1 qA9 ?_
   refine yfz 1 qU187 qZ4 ?_
   refine yl st 0 qA4 ?_
   refine zA3 (zA1 [_,_] rfl rfl call149 rfl (gF1 _ _ _) ?_)
   rintro _ _ ⟨rfl,rfl⟩
   refine vy (zG5 rfl) ?_
   refine ypf ?_
   refine vmb ?_ ?_
   ·intro hg39
    try simp only [dn] at hg39
    iterate 9 refine vsk ?_
    refine ypt ?_
    refine ym ?_
    iterate 9 refine vsk ?_
    refine ypt ?_
    refine et (vk7 1 6 7 9 10 11 60 ?_)
    refine zC9 rfl ?_
    refine sr ?_
    refine ya ?_
    refine et (vk1 4 (zA8 (zA (zA4 (zA (zA (zA4 (zA ?_))))))))
    refine vr1 st results93 ?_
    refine⟨?_,st.chg⟩
    first
     | (refine zI1 hsj fun hR => ?_
        obtain⟨r1,r2,r3,r4,r5,r6,r7,r8,r9⟩:=rightS_iff.1 hR
        clear st hsV hse hsb hsl hc hg hr ih hok hks hall
        (simp_all;done))
   intro hg39
   try simp only [dn] at hg39
   refine yfz 3 qU187 qZ4 ?_
   refine yl st 0 qA4 ?_
   refine vy (zG5 rfl) ?_
   refine vmb ?_ ?_
   ·intro hg43
    try simp only [dn] at hg43
    refine yfz 4 qU67 qZ65 ?_
    refine yl st 1 qA65 ?_
    refine vy (zB1 rfl qU65) ?_
    refine vy (zT4 rfl rfl) ?_
    refine ypt ?_
    refine ypf ?_
    refine vmb ?_ ?_
    ·intro hg50
     try simp only [dn] at hg50
     iterate 9 refine vsk ?_
     refine ypt ?_
     refine et (vk7 1 6 7 9 10 11 60 ?_)
     refine zC9 rfl ?_
     refine sr ?_
     refine ya ?_
     refine et (vk1 4 (zA8 (zA (zA4 (zA (zA (zA4 (zA ?_))))))))
     refine vr1 st results93 ?_
     refine⟨?_,st.chg⟩
     first
      | (refine zI1 hsj fun hR => ?_
         obtain⟨r1,r2,r3,r4,r5,r6,r7,r8,r9⟩:=rightS_iff.1 hR
         clear st hsV hse hsb hsl hc hg hr ih hok hks hall
         (simp_all;done))
    intro hg50
    try simp only [dn] at hg50
    refine yfz 4 qU187 qZ4 ?_
    refine yl st 0 qA4 ?_
    refine vy (zG5 rfl) ?_
    refine vmb ?_ ?_
    ·intro hg54
     try simp only [dn] at hg54
     refine yfz 5 qU67 qZ65 ?_
     refine yl st 1 qA65 ?_
     refine vy (zB1 rfl qU65) ?_
     refine vy (zT4 rfl rfl) ?_
     refine ypt ?_
     refine ypf ?_
     refine et (vk7 1 6 7 9 10 11 60 ?_)
     refine vif ?_ ?_
     ·intro hc60
      try simp only [dn] at hc60
      refine sr ?_
      refine ya ?_
      refine et (vk1 4 (zA8 (zA (zA4 (zA (zA (zA4 (zA ?_))))))))
      refine vr1 st results93 ?_
      refine⟨?_,st.chg⟩
      first
       | (refine zI1 hsj fun hR => ?_
          obtain⟨r1,r2,r3,r4,r5,r6,r7,r8,r9⟩:=rightS_iff.1 hR
          clear st hsV hse hsb hsl hc hg hr ih hok hks hall
          omega)
     intro hc60
     try simp only [dn] at hc60
     refine zA5 ?_
     refine zB8 () ⟨rfl,rfl,rfl,rfl,rfl,rfl,trivial⟩ st ?_
     ·refine⟨by assumption,by assumption,by assumption,?_,?_⟩ <;> (right;omega)
    intro hg54
    try simp only [dn] at hg54
    iterate 4 refine vsk ?_
    iterate 2 refine ypf ?_
    refine et (vk7 1 6 7 9 10 11 60 ?_)
    refine zM2 rfl ?_
    refine zA5 ?_
    refine zB8 () ⟨rfl,rfl,rfl,rfl,rfl,rfl,trivial⟩ st ?_
    ·refine⟨by assumption,by assumption,by assumption,?_,?_⟩ <;> first|(left;assumption)|(right;omega)
   intro hg43
   try simp only [dn] at hg43
   iterate 4 refine vsk ?_
   iterate 2 refine ypf ?_
   refine ym ?_
   refine yfz 4 qU187 qZ4 ?_
   refine yl st 0 qA4 ?_
   refine vy (zG5 rfl) ?_
   refine vmb ?_ ?_
   ·intro hg54
    try simp only [dn] at hg54
    refine yfz 5 qU67 qZ65 ?_
    refine yl st 1 qA65 ?_
    refine vy (zB1 rfl qU65) ?_
    refine vy (zT4 rfl rfl) ?_
    refine ypt ?_
    refine ypf ?_
    refine et (vk7 1 6 7 9 10 11 60 ?_)
    refine vif ?_ ?_
    ·intro hc60
     try simp only [dn] at hc60
     refine sr ?_
     refine ya ?_
     refine et (vk1 4 (zA8 (zA (zA4 (zA (zA (zA4 (zA ?_))))))))
     refine vr1 st results93 ?_
     refine⟨?_,st.chg⟩
     first
      | (refine zI1 hsj fun hR => ?_
         obtain⟨r1,r2,r3,r4,r5,r6,r7,r8,r9⟩:=rightS_iff.1 hR
         clear st hsV hse hsb hsl hc hg hr ih hok hks hall
         omega)
    intro hc60
    try simp only [dn] at hc60
    refine zA5 ?_
    refine zB8 () ⟨rfl,rfl,rfl,rfl,rfl,rfl,trivial⟩ st ?_
    ·refine⟨by assumption,by assumption,by assumption,?_,?_⟩ <;> first|(left;assumption)|(right;omega)
   intro hg54
   try simp only [dn] at hg54
   iterate 4 refine vsk ?_
   iterate 2 refine ypf ?_
   refine et (vk7 1 6 7 9 10 11 60 ?_)
   refine zM2 rfl ?_
   refine zA5 ?_
   refine zB8 () ⟨rfl,rfl,rfl,rfl,rfl,rfl,trivial⟩ st ?_
   ·refine⟨by assumption,by assumption,by assumption,?_,?_⟩ <;> (left;assumption)
  clear st
  rintro ⟨⟩ w ⟨hA1,hA2,hA3,hA4,hA5⟩ st
  refine zL2 (w0:=w0) (M:=[]) (fun (_:Unit)=>[(1,.int .i64 (d:Int)),(6,.pointer (some ⟨b6,0,none⟩)),(7,.pointer (some ⟨b7,0,none⟩)),(9,.slice (some ⟨gb,go,none⟩) ss.length cap),(10,.int .i64 (ss.length:Int)),(11,.int .i64 (j:Int))]) (fun _=>[.blk b7 (.cells (jF7 s.k).toArray 187 (0,0)),.blk b6 (.cells (smL s oe ob ol ce cb cl).toArray 67 (0,0))]) (fun _ _=>zH5 (zW9 s.k) s.e=true) ?_ ?_
  ·refine zC5 ?_
   refine zB4 ?_
   refine yfz 2 qU187 qZ4 ?_
   refine yl st 0 qA4 ?_
   refine vmb ?_ ?_
   ·intro hg63
    try simp only [dn] at hg63
    refine yfz 3 qU67 qZ40 ?_
    refine yl st 1 qA40 ?_
    refine vy (zB1 rfl qU40) ?_
    refine vy (zR rfl rfl) ?_
    refine vmb ?_ ?_
    ·intro hg68
     try simp only [dn] at hg68
     iterate 6 refine vsk ?_
     iterate 2 refine ypt ?_
     refine ym ?_
     iterate 9 refine vsk ?_
     refine ypt ?_
     refine et (vk7 1 6 7 9 10 11 87 ?_)
     refine zC9 rfl ?_
     refine sr ?_
     refine ya ?_
     refine et (vk1 4 (zA8 (zA (zA4 (zA (zA (zA4 (zA ?_))))))))
     refine vr1 st results93 ?_
     refine⟨?_,st.chg⟩
     first
      | (refine zI1 hsj fun hR => ?_
         obtain⟨r1,r2,r3,r4,r5,r6,r7,r8,r9⟩:=rightS_iff.1 hR
         clear st hsV hse hsb hsl hc hg hr ih hok hks hall
         first
           | (have hE : zW9 s.k = true := by assumption
              rw [hE] at r4
              (rw [gH1 (by omega)] at r4;cases r4)))
    intro hg68
    try simp only [dn] at hg68
    obtain⟨x,hx⟩:=kR9 (l:=s.e) (n:=s.e.length) rfl (by omega)
    obtain⟨eb,eo,rfl,heS,hel,heg⟩:=ExRow.at hse (by omega)
    obtain⟨o0,c0,hV0,hr0,hc0⟩:=heg 0 x hx
    refine yfz 3 qU67 qZ40 ?_
    refine yl st 1 qA40 ?_
    refine vy (zM3 (k:=0) rfl rfl qU40 qZ42 rfl (by omega)) ?_
    refine vy (zE6 (exL x o0 c0) rfl qA42 qZ42 rfl (fun i v hi=>st.chg.cell (hc0 i v hi) (by simp))) ?_
    refine zA3 (zA1 [_,_] rfl rfl call46 rfl (gY _ x rfl 0 (by omega) _ _ (hV0.kept st.sm) (hsg.kept st.chg)) ?_)
    rintro _ w ⟨rfl,cw⟩
    replace st:=st.call0 cw
    refine vy (zG5 rfl) ?_
    refine ypf ?_
    refine ypt ?_
    refine vmb ?_ ?_
    ·intro hg77
     try simp only [dn] at hg77
     iterate 9 refine vsk ?_
     refine ypt ?_
     refine et (vk7 1 6 7 9 10 11 87 ?_)
     refine zC9 rfl ?_
     refine sr ?_
     refine ya ?_
     refine et (vk1 4 (zA8 (zA (zA4 (zA (zA (zA4 (zA ?_))))))))
     refine vr1 st results93 ?_
     refine⟨?_,st.chg⟩
     first
      | (refine zI1 hsj fun hR => ?_
         obtain⟨r1,r2,r3,r4,r5,r6,r7,r8,r9⟩:=rightS_iff.1 hR
         clear st hsV hse hsb hsl hc hg hr ih hok hks hall
         first
           | (have hE : zW9 s.k = true := by assumption
              rw [hE] at r4
              (rw [qM6 (by omega) hx] at r4;simp_all;done)))
    intro hg77
    try simp only [dn] at hg77
    refine yfz 2 qU187 qZ4 ?_
    refine yl st 0 qA4 ?_
    refine vy (zG5 rfl) ?_
    refine vmb ?_ ?_
    ·intro hg81
     try simp only [dn] at hg81
     refine yfz 3 qU67 qZ40 ?_
     refine yl st 1 qA40 ?_
     refine vy (zB1 rfl qU40) ?_
     refine vy (zT4 rfl rfl) ?_
     refine ypt ?_
     refine ypf ?_
     refine et (vk7 1 6 7 9 10 11 87 ?_)
     refine vif ?_ ?_
     ·intro hc87
      try simp only [dn] at hc87
      refine sr ?_
      refine ya ?_
      refine et (vk1 4 (zA8 (zA (zA4 (zA (zA (zA4 (zA ?_))))))))
      refine vr1 st results93 ?_
      refine⟨?_,st.chg⟩
      first
       | (refine zI1 hsj fun hR => ?_
          obtain⟨r1,r2,r3,r4,r5,r6,r7,r8,r9⟩:=rightS_iff.1 hR
          clear st hsV hse hsb hsl hc hg hr ih hok hks hall
          (simp_all;done))
     intro hc87
     try simp only [dn] at hc87
     refine zA5 ?_
     refine zB8 () ⟨rfl,rfl,rfl,rfl,rfl,rfl,trivial⟩ st ?_
     ·first
       | (exfalso; have h1 : zW9 s.k = true := by assumption
          have h2:zW9 s.k=false:=by assumption
          rw [h1] at h2;cases h2)
    intro hg81
    try simp only [dn] at hg81
    iterate 4 refine vsk ?_
    iterate 2 refine ypf ?_
    refine et (vk7 1 6 7 9 10 11 87 ?_)
    refine zM2 rfl ?_
    refine zA5 ?_
    refine zB8 () ⟨rfl,rfl,rfl,rfl,rfl,rfl,trivial⟩ st ?_
    ·first
      | (have hE : zW9 s.k = true := by assumption
         rw [hE,qM6 (by omega) hx];assumption)
   intro hg63
   try simp only [dn] at hg63
   iterate 12 refine vsk ?_
   refine ypf ?_
   refine ym ?_
   refine yfz 2 qU187 qZ4 ?_
   refine yl st 0 qA4 ?_
   refine vy (zG5 rfl) ?_
   refine vmb ?_ ?_
   ·intro hg81
    try simp only [dn] at hg81
    refine yfz 3 qU67 qZ40 ?_
    refine yl st 1 qA40 ?_
    refine vy (zB1 rfl qU40) ?_
    refine vy (zT4 rfl rfl) ?_
    refine ypt ?_
    refine ypf ?_
    refine et (vk7 1 6 7 9 10 11 87 ?_)
    refine vif ?_ ?_
    ·intro hc87
     try simp only [dn] at hc87
     refine sr ?_
     refine ya ?_
     refine et (vk1 4 (zA8 (zA (zA4 (zA (zA (zA4 (zA ?_))))))))
     refine vr1 st results93 ?_
     refine⟨?_,st.chg⟩
     first
      | (refine zI1 hsj fun hR => ?_
         obtain⟨r1,r2,r3,r4,r5,r6,r7,r8,r9⟩:=rightS_iff.1 hR
         clear st hsV hse hsb hsl hc hg hr ih hok hks hall
         first
           | (have hE : zW9 s.k = false := by assumption
              rw [hE,qT6,decide_eq_true_eq] at r4;omega))
    intro hc87
    try simp only [dn] at hc87
    refine zA5 ?_
    refine zB8 () ⟨rfl,rfl,rfl,rfl,rfl,rfl,trivial⟩ st ?_
    ·first
      | (have hE : zW9 s.k = false := by assumption
         rw [hE,qT6,decide_eq_true_eq];omega)
   intro hg81
   try simp only [dn] at hg81
   iterate 4 refine vsk ?_
   iterate 2 refine ypf ?_
   refine et (vk7 1 6 7 9 10 11 87 ?_)
   refine zM2 rfl ?_
   refine zA5 ?_
   refine zB8 () ⟨rfl,rfl,rfl,rfl,rfl,rfl,trivial⟩ st ?_
   ·first
     | (exfalso; have h1 : zW9 s.k = true := by assumption
        have h2:zW9 s.k=false:=by assumption
        rw [h1] at h2;cases h2)
  clear st
  rintro ⟨⟩ w hA6 st
  refine sr ?_
  refine yfz 3 qU187 qZ4 ?_
  refine yl st 0 qA4 ?_
  refine vmb ?_ ?_
  ·intro hg90
   try simp only [dn] at hg90
   iterate 4 refine vsk ?_
   refine ypt ?_
   iterate 2 refine ym ?_
   refine vy (zT3 rfl rfl) ?_
   refine ypt ?_
   refine vmb ?_ ?_
   ·intro hg100
    try simp only [dn] at hg100
    iterate 6 refine vsk ?_
    refine ypt ?_
    refine ym ?_
    iterate 6 refine vsk ?_
    refine ypt ?_
    refine et (vk5 1 9 10 11 115 ?_)
    refine zC9 rfl ?_
    refine sr ?_
    refine ya ?_
    refine et (vk1 4 (zA8 (zA4 (zA (zA (zA4 (zA ?_)))))))
    refine vr1 st results93 ?_
    refine⟨?_,st.chg⟩
    first
     | (refine zI1 hsj fun hR => ?_
        obtain⟨r1,r2,r3,r4,r5,r6,r7,r8,r9⟩:=rightS_iff.1 hR
        clear st hsV hse hsb hsl hc hg hr ih hok hks hall
        (simp_all;omega))
   intro hg100
   try simp only [dn] at hg100
   refine yfz 4 qU67 qZ65 ?_
   refine yl st 1 qA65 ?_
   refine ym ?_
   refine vy (zK2 rfl rfl (by omega:_=((d+1:Nat):Int)) (by omega) (by omega)) ?_
   refine zA3 (zA1 [_,_] rfl rfl call93 rfl (ih (szo s.body) hB s.body rfl (d+1) (by omega) (by(right;omega)) _ _ _ (hsb.kept st.sm) hks.body (hsg.kept st.chg)) ?_)
   rintro _ w ⟨rfl,cw⟩
   replace st:=st.call0 cw
   refine vy (zG5 rfl) ?_
   refine ypf ?_
   refine vmb ?_ ?_
   ·intro hg108
    try simp only [dn] at hg108
    iterate 6 refine vsk ?_
    refine ypt ?_
    refine et (vk5 1 9 10 11 115 ?_)
    refine zC9 rfl ?_
    refine sr ?_
    refine ya ?_
    refine et (vk1 4 (zA8 (zA4 (zA (zA (zA4 (zA ?_)))))))
    refine vr1 st results93 ?_
    refine⟨?_,st.chg⟩
    first
     | (refine zI1 hsj fun hR => ?_
        obtain⟨r1,r2,r3,r4,r5,r6,r7,r8,r9⟩:=rightS_iff.1 hR
        clear st hsV hse hsb hsl hc hg hr ih hok hks hall
        (simp_all;done))
   intro hg108
   try simp only [dn] at hg108
   skip
   refine yfz 5 qU67 qZ65 ?_
   refine yl st 1 qA65 ?_
   refine ym ?_
   refine vy (zK2 rfl rfl (by omega:_=((d+1:Nat):Int)) (by omega) (by omega)) ?_
   refine zA3 (zA1 [_,_] rfl rfl call93 rfl (ih (szo s.els) hL s.els rfl (d+1) (by omega) (by(right;omega)) _ _ _ (hsl.kept st.sm) hks.els (hsg.kept st.chg)) ?_)
   rintro _ w ⟨rfl,cw⟩
   replace st:=st.call0 cw
   refine vy (zG5 rfl) ?_
   refine ypf ?_
   refine et (vk5 1 9 10 11 115 ?_)
   refine vif ?_ ?_
   ·intro hc115
    try simp only [dn] at hc115
    refine sr ?_
    refine ya ?_
    refine et (vk1 4 (zA8 (zA4 (zA (zA (zA4 (zA ?_)))))))
    refine vr1 st results93 ?_
    refine⟨?_,st.chg⟩
    first
     | (refine zI1 hsj fun hR => ?_
        obtain⟨r1,r2,r3,r4,r5,r6,r7,r8,r9⟩:=rightS_iff.1 hR
        clear st hsV hse hsb hsl hc hg hr ih hok hks hall
        (simp_all;done))
   intro hc115
   try simp only [dn] at hc115
   refine zA5 (zE0 (zA6 (vk4 1 9 10 11 (zB4 ?_))))
   refine vy (zK2 rfl rfl (by omega:_=((j+1:Nat):Int)) (by omega) (by omega)) ?_
   refine ym ?_
   refine zI6 ?_
   refine zA7 (j+1)  ⟨rfl,rfl,rfl,rfl,trivial⟩ (st.dr) ?_ ?_
   ·exact⟨by omega,zO0 hall hsj (rightS_iff.2 ⟨hA1,hA2,hA3,hA6,hA4,hA5,by(right;omega),by assumption,by assumption⟩)⟩
   omega
  intro hg90
  try simp only [dn] at hg90
  refine yfz 5 qU67 qZ65 ?_
  refine yl st 1 qA65 ?_
  refine vy (zB1 rfl qU65) ?_
  refine vy (zT4 rfl rfl) ?_
  refine ypf ?_
  refine vmb ?_ ?_
  ·intro hg96
   try simp only [dn] at hg96
   refine ym ?_
   refine vy (zT3 rfl rfl) ?_
   refine ypt ?_
   refine vmb ?_ ?_
   ·intro hg100
    try simp only [dn] at hg100
    iterate 6 refine vsk ?_
    refine ypt ?_
    refine ym ?_
    iterate 6 refine vsk ?_
    refine ypt ?_
    refine et (vk5 1 9 10 11 115 ?_)
    refine zC9 rfl ?_
    refine sr ?_
    refine ya ?_
    refine et (vk1 4 (zA8 (zA4 (zA (zA (zA4 (zA ?_)))))))
    refine vr1 st results93 ?_
    refine⟨?_,st.chg⟩
    first
     | (refine zI1 hsj fun hR => ?_
        obtain⟨r1,r2,r3,r4,r5,r6,r7,r8,r9⟩:=rightS_iff.1 hR
        clear st hsV hse hsb hsl hc hg hr ih hok hks hall
        omega)
   intro hg100
   try simp only [dn] at hg100
   refine yfz 4 qU67 qZ65 ?_
   refine yl st 1 qA65 ?_
   refine ym ?_
   refine vy (zK2 rfl rfl (by omega:_=((d+1:Nat):Int)) (by omega) (by omega)) ?_
   refine zA3 (zA1 [_,_] rfl rfl call93 rfl (ih (szo s.body) hB s.body rfl (d+1) (by omega) (by(right;omega)) _ _ _ (hsb.kept st.sm) hks.body (hsg.kept st.chg)) ?_)
   rintro _ w ⟨rfl,cw⟩
   replace st:=st.call0 cw
   refine vy (zG5 rfl) ?_
   refine ypf ?_
   refine vmb ?_ ?_
   ·intro hg108
    try simp only [dn] at hg108
    iterate 6 refine vsk ?_
    refine ypt ?_
    refine et (vk5 1 9 10 11 115 ?_)
    refine zC9 rfl ?_
    refine sr ?_
    refine ya ?_
    refine et (vk1 4 (zA8 (zA4 (zA (zA (zA4 (zA ?_)))))))
    refine vr1 st results93 ?_
    refine⟨?_,st.chg⟩
    first
     | (refine zI1 hsj fun hR => ?_
        obtain⟨r1,r2,r3,r4,r5,r6,r7,r8,r9⟩:=rightS_iff.1 hR
        clear st hsV hse hsb hsl hc hg hr ih hok hks hall
        (simp_all;done))
   intro hg108
   try simp only [dn] at hg108
   skip
   refine yfz 5 qU67 qZ65 ?_
   refine yl st 1 qA65 ?_
   refine ym ?_
   refine vy (zK2 rfl rfl (by omega:_=((d+1:Nat):Int)) (by omega) (by omega)) ?_
   refine zA3 (zA1 [_,_] rfl rfl call93 rfl (ih (szo s.els) hL s.els rfl (d+1) (by omega) (by(right;omega)) _ _ _ (hsl.kept st.sm) hks.els (hsg.kept st.chg)) ?_)
   rintro _ w ⟨rfl,cw⟩
   replace st:=st.call0 cw
   refine vy (zG5 rfl) ?_
   refine ypf ?_
   refine et (vk5 1 9 10 11 115 ?_)
   refine vif ?_ ?_
   ·intro hc115
    try simp only [dn] at hc115
    refine sr ?_
    refine ya ?_
    refine et (vk1 4 (zA8 (zA4 (zA (zA (zA4 (zA ?_)))))))
    refine vr1 st results93 ?_
    refine⟨?_,st.chg⟩
    first
     | (refine zI1 hsj fun hR => ?_
        obtain⟨r1,r2,r3,r4,r5,r6,r7,r8,r9⟩:=rightS_iff.1 hR
        clear st hsV hse hsb hsl hc hg hr ih hok hks hall
        (simp_all;done))
   intro hc115
   try simp only [dn] at hc115
   refine zA5 (zE0 (zA6 (vk4 1 9 10 11 (zB4 ?_))))
   refine vy (zK2 rfl rfl (by omega:_=((j+1:Nat):Int)) (by omega) (by omega)) ?_
   refine ym ?_
   refine zI6 ?_
   refine zA7 (j+1)  ⟨rfl,rfl,rfl,rfl,trivial⟩ (st.dr) ?_ ?_
   ·exact⟨by omega,zO0 hall hsj (rightS_iff.2 ⟨hA1,hA2,hA3,hA6,hA4,hA5,by(right;omega),by assumption,by assumption⟩)⟩
   omega
  intro hg96
  try simp only [dn] at hg96
  iterate 2 refine vsk ?_
  refine ypf ?_
  refine ym ?_
  refine yfz 4 qU67 qZ65 ?_
  refine yl st 1 qA65 ?_
  refine ym ?_
  refine vy (zK2 rfl rfl (by omega:_=((d+1:Nat):Int)) (by omega) (by omega)) ?_
  refine zA3 (zA1 [_,_] rfl rfl call93 rfl (ih (szo s.body) hB s.body rfl (d+1) (by omega) (by(left;exact hA4.resolve_left (by rw [‹qA1 s.k=false›];simp))) _ _ _ (hsb.kept st.sm) hks.body (hsg.kept st.chg)) ?_)
  rintro _ w ⟨rfl,cw⟩
  replace st:=st.call0 cw
  refine vy (zG5 rfl) ?_
  refine ypf ?_
  refine vmb ?_ ?_
  ·intro hg108
   try simp only [dn] at hg108
   iterate 6 refine vsk ?_
   refine ypt ?_
   refine et (vk5 1 9 10 11 115 ?_)
   refine zC9 rfl ?_
   refine sr ?_
   refine ya ?_
   refine et (vk1 4 (zA8 (zA4 (zA (zA (zA4 (zA ?_)))))))
   refine vr1 st results93 ?_
   refine⟨?_,st.chg⟩
   first
    | (refine zI1 hsj fun hR => ?_
       obtain⟨r1,r2,r3,r4,r5,r6,r7,r8,r9⟩:=rightS_iff.1 hR
       clear st hsV hse hsb hsl hc hg hr ih hok hks hall
       (simp_all;done))
  intro hg108
  try simp only [dn] at hg108
  skip
  refine yfz 5 qU67 qZ65 ?_
  refine yl st 1 qA65 ?_
  refine ym ?_
  refine vy (zK2 rfl rfl (by omega:_=((d+1:Nat):Int)) (by omega) (by omega)) ?_
  refine zA3 (zA1 [_,_] rfl rfl call93 rfl (ih (szo s.els) hL s.els rfl (d+1) (by omega) (by(left;omega)) _ _ _ (hsl.kept st.sm) hks.els (hsg.kept st.chg)) ?_)
  rintro _ w ⟨rfl,cw⟩
  replace st:=st.call0 cw
  refine vy (zG5 rfl) ?_
  refine ypf ?_
  refine et (vk5 1 9 10 11 115 ?_)
  refine vif ?_ ?_
  ·intro hc115
   try simp only [dn] at hc115
   refine sr ?_
   refine ya ?_
   refine et (vk1 4 (zA8 (zA4 (zA (zA (zA4 (zA ?_)))))))
   refine vr1 st results93 ?_
   refine⟨?_,st.chg⟩
   first
    | (refine zI1 hsj fun hR => ?_
       obtain⟨r1,r2,r3,r4,r5,r6,r7,r8,r9⟩:=rightS_iff.1 hR
       clear st hsV hse hsb hsl hc hg hr ih hok hks hall
       (simp_all;done))
  intro hc115
  try simp only [dn] at hc115
  refine zA5 (zE0 (zA6 (vk4 1 9 10 11 (zB4 ?_))))
  refine vy (zK2 rfl rfl (by omega:_=((j+1:Nat):Int)) (by omega) (by omega)) ?_
  refine ym ?_
  refine zI6 ?_
  refine zA7 (j+1)  ⟨rfl,rfl,rfl,rfl,trivial⟩ (st.dr) ?_ ?_
  ·exact⟨by omega,zO0 hall hsj (rightS_iff.2 ⟨hA1,hA2,hA3,hA6,hA4,hA5,by(left;exact⟨by assumption,by omega⟩),by assumption,by assumption⟩)⟩
  omega
 intro hc12
 try simp only [dn] at hc12
 refine zJ1 (zB3 (zB3 (zC0 (zA6 (zR0 [] trivial (sr ?_))))))
 refine ya ?_
 refine et (vk1 4 (zA8 ?_))
 refine vr1 st results93 ?_
 refine⟨?_,st.chg⟩
 rw [qO9,qK4 hall (by omega)]
end
end Go.Proofs.YtnmhlpnapgojjaaGreatDoor
