/- A part of the proof: contracts of functions and plain laws; each theorem says its own conditions. -/
import Derived.Test.YtkhpdpenlnhbiaaGreatDoorTopLoweredK7
import Derived.Test.YtkhpdpenlnhbiaaGreatDoorTopLoweredLJ
import Derived.Test.YtkhpdpenlnhbiaaGreatDoorTopLoweredK23
namespace Go.Proofs.YtkhpdpenlnhbiaaGreatDoor
open Go.RowKit Sx LexS ParS _root_.Go.Proofs.Tryz
set_option linter.unusedVariables false
set_option linter.unusedSimpArgs false
abbrev tblG:List Value:=[.int .u8 0,.int .u8 43,.int .u8 38,.int .u8 44,.int .u8 46,.int .u8 36,.int .u8 36,.int .u8 40,.int .u8 104,.int .u8 0]
def tbN (k:Nat):Int:=[0,43,38,44,46,36,36,40,104,0].getD k 0
theorem tbG_at {k:Nat} (h:k≤9):nth tblG (k*1)=some (.int .u8 (tbN k)):=by
 rcases (by omega:k=0∨k=1∨k=2∨k=3∨k=4∨k=5∨k=6∨k=7∨k=8∨k=9) with rfl|rfl|rfl|rfl|rfl|rfl|rfl|rfl|rfl|rfl <;> rfl
theorem tbG_at0 {k:Nat} (h:k≤9):nth tblG (0+k*1)=some (.int .u8 (tbN k)):=by rw [Nat.zero_add];exact tbG_at h
def pG (k:Nat) (op:Int):Int:=if k=1∧twoOp op=true then 59 else tbN k
theorem okG_k {nS nL s:Nat} {g:Gn} (h:okG nS nL s g):∃ k:Nat,g.k=(k:Int)∧1≤k∧k≤9:=by
 rcases h with ⟨h,-⟩|⟨h,-⟩|⟨h,-⟩|⟨h,-⟩|⟨h|h,-⟩|⟨h|h,-⟩|⟨h,-⟩
 ·exact⟨1,h,by decide,by decide⟩
 ·exact⟨2,h,by decide,by decide⟩
 ·exact⟨3,h,by decide,by decide⟩
 ·exact⟨4,h,by decide,by decide⟩
 ·exact⟨5,h,by decide,by decide⟩
 ·exact⟨6,h,by decide,by decide⟩
 ·exact⟨7,h,by decide,by decide⟩
 ·exact⟨8,h,by decide,by decide⟩
 ·exact⟨9,h,by decide,by decide⟩
theorem pG_n {k:Nat} {op:Int} (h:k≠1):pG k op=tbN k:=if_neg fun e=>h e.1
theorem pG_1 {op k m:Int} (h1:u8And 59 k=m) (h2:u8And 43 k=m):u8And (pG 1 op) k=m:=by
 unfold pG
 split
 ·exact h1
 ·exact h2
theorem wi_pos {p has k most:Int} (h:u8And p has≠0) (h1:0≤k) (h2:k<most):wiB p has k most=true:=wiB_pos h h1 h2
theorem wi_zero {p has k most:Int} (h:u8And p has=0) (h1:k=0):wiB p has k most=true:=by subst h1;exact wiB_zero h
section
variable {nS nL s n:Nat} {g:Gn} {k:Nat}
theorem gk1 (h:okG nS nL s g) (hk:g.k=(k:Int)):wiB (pG k g.op) 1 g.op 19=true:=by
 rcases h with ⟨e,h1,h2,h3,h4,h5,h6,h7⟩|⟨e,h1,h2,h3,h4,h5⟩|⟨e,h1,h2,h3,h4,h5⟩|⟨e,h1,h2,h3,h4,h5⟩|⟨e,h1,h2,h3,h4,h5⟩|⟨e,h1,h2,h3,h4,h5⟩|⟨e,h1,h2,h3,h4,h5⟩
 ·have hk2:k=1:=by omega
  subst hk2
  exact wi_pos (by rw [pG_1 (m:=1) (by decide) (by decide)];decide) h1 h2
 ·have hk2:k=2:=by omega
  subst hk2
  exact wi_zero (by rw [pG_n (by decide)];decide) h1
 ·have hk2:k=3:=by omega
  subst hk2
  exact wi_zero (by rw [pG_n (by decide)];decide) h1
 ·have hk2:k=4:=by omega
  subst hk2
  exact wi_zero (by rw [pG_n (by decide)];decide) h1
 ·have hk2:k=5∨k=6:=by omega
  rcases hk2 with rfl|rfl
  ·exact wi_zero (by rw [pG_n (by decide)];decide) h1
  ·exact wi_zero (by rw [pG_n (by decide)];decide) h1
 ·have hk2:k=7∨k=8:=by omega
  rcases hk2 with rfl|rfl
  ·exact wi_zero (by rw [pG_n (by decide)];decide) h1
  ·exact wi_zero (by rw [pG_n (by decide)];decide) h1
 ·have hk2:k=9:=by omega
  subst hk2
  exact wi_zero (by rw [pG_n (by decide)];decide) h1
theorem gk2 (h:okG nS nL s g) (hk:g.k=(k:Int)):wiB (pG k g.op) 2 g.sl (s:Int)=true:=by
 rcases h with ⟨e,h1,h2,h3,h4,h5,h6,h7⟩|⟨e,h1,h2,h3,h4,h5⟩|⟨e,h1,h2,h3,h4,h5⟩|⟨e,h1,h2,h3,h4,h5⟩|⟨e,h1,h2,h3,h4,h5⟩|⟨e,h1,h2,h3,h4,h5⟩|⟨e,h1,h2,h3,h4,h5⟩
 ·have hk2:k=1:=by omega
  subst hk2
  exact wi_pos (by rw [pG_1 (m:=2) (by decide) (by decide)];decide) h3.1 h3.2
 ·have hk2:k=2:=by omega
  subst hk2
  exact wi_pos (by rw [pG_n (by decide)];decide) h2.1 h2.2
 ·have hk2:k=3:=by omega
  subst hk2
  exact wi_zero (by rw [pG_n (by decide)];decide) h2
 ·have hk2:k=4:=by omega
  subst hk2
  exact wi_pos (by rw [pG_n (by decide)];decide) h2.1 h2.2
 ·have hk2:k=5∨k=6:=by omega
  rcases hk2 with rfl|rfl
  ·exact wi_zero (by rw [pG_n (by decide)];decide) h2
  ·exact wi_zero (by rw [pG_n (by decide)];decide) h2
 ·have hk2:k=7∨k=8:=by omega
  rcases hk2 with rfl|rfl
  ·exact wi_zero (by rw [pG_n (by decide)];decide) h2
  ·exact wi_zero (by rw [pG_n (by decide)];decide) h2
 ·have hk2:k=9:=by omega
  subst hk2
  exact wi_zero (by rw [pG_n (by decide)];decide) h2
theorem gk3 (h:okG nS nL s g) (hk:g.k=(k:Int)):wiB (pG k g.op) 4 g.th (if k=5∨k=6 then (nL:Int) else (nS:Int))=true:=by
 rcases h with ⟨e,h1,h2,h3,h4,h5,h6,h7⟩|⟨e,h1,h2,h3,h4,h5⟩|⟨e,h1,h2,h3,h4,h5⟩|⟨e,h1,h2,h3,h4,h5⟩|⟨e,h1,h2,h3,h4,h5⟩|⟨e,h1,h2,h3,h4,h5⟩|⟨e,h1,h2,h3,h4,h5⟩
 ·have hk2:k=1:=by omega
  subst hk2
  exact wi_zero (pG_1 (by decide) (by decide)) h4
 ·have hk2:k=2:=by omega
  subst hk2
  exact wi_pos (by rw [pG_n (by decide)];decide) h3.1 h3.2
 ·have hk2:k=3:=by omega
  subst hk2
  exact wi_pos (by rw [pG_n (by decide)];decide) h3.1 h3.2
 ·have hk2:k=4:=by omega
  subst hk2
  exact wi_pos (by rw [pG_n (by decide)];decide) h3.1 h3.2
 ·have hk2:k=5∨k=6:=by omega
  rcases hk2 with rfl|rfl
  ·exact wi_pos (by rw [pG_n (by decide)];decide) h3.1 h3.2
  ·exact wi_pos (by rw [pG_n (by decide)];decide) h3.1 h3.2
 ·have hk2:k=7∨k=8:=by omega
  rcases hk2 with rfl|rfl
  ·exact wi_zero (by rw [pG_n (by decide)];decide) h3
  ·exact wi_zero (by rw [pG_n (by decide)];decide) h3
 ·have hk2:k=9:=by omega
  subst hk2
  exact wi_zero (by rw [pG_n (by decide)];decide) h3
theorem gk4 (h:okG nS nL s g) (hk:g.k=(k:Int)) (hn:k≠9→g.nx<n) (h0:k=9→g.nx=0):wiB (pG k g.op) 32 (g.nx:Int) (n:Int)=true:=by
 rcases h with ⟨e,h1,h2,h3,h4,h5,h6,h7⟩|⟨e,h1,h2,h3,h4,h5⟩|⟨e,h1,h2,h3,h4,h5⟩|⟨e,h1,h2,h3,h4,h5⟩|⟨e,h1,h2,h3,h4,h5⟩|⟨e,h1,h2,h3,h4,h5⟩|⟨e,h1,h2,h3,h4,h5⟩
 ·have hk2:k=1:=by omega
  subst hk2
  have:=hn (by decide);exact wi_pos (by rw [pG_1 (m:=32) (by decide) (by decide)];decide) (by omega) (by omega)
 ·have hk2:k=2:=by omega
  subst hk2
  have:=hn (by decide);exact wi_pos (by rw [pG_n (by decide)];decide) (by omega) (by omega)
 ·have hk2:k=3:=by omega
  subst hk2
  have:=hn (by decide);exact wi_pos (by rw [pG_n (by decide)];decide) (by omega) (by omega)
 ·have hk2:k=4:=by omega
  subst hk2
  have:=hn (by decide);exact wi_pos (by rw [pG_n (by decide)];decide) (by omega) (by omega)
 ·have hk2:k=5∨k=6:=by omega
  rcases hk2 with rfl|rfl
  ·have:=hn (by decide);exact wi_pos (by rw [pG_n (by decide)];decide) (by omega) (by omega)
  ·have:=hn (by decide);exact wi_pos (by rw [pG_n (by decide)];decide) (by omega) (by omega)
 ·have hk2:k=7∨k=8:=by omega
  rcases hk2 with rfl|rfl
  ·have:=hn (by decide);exact wi_pos (by rw [pG_n (by decide)];decide) (by omega) (by omega)
  ·have:=hn (by decide);exact wi_pos (by rw [pG_n (by decide)];decide) (by omega) (by omega)
 ·have hk2:k=9:=by omega
  subst hk2
  exact wi_zero (by rw [pG_n (by decide)];decide) (by rw [h0 rfl];rfl)
theorem gk5 (h:okG nS nL s g) (hk:g.k=(k:Int)) (hn:k=8→g.el<n) (h0:k≠8→g.el=0):wiB (pG k g.op) 64 (g.el:Int) (n:Int)=true:=by
 rcases h with ⟨e,h1,h2,h3,h4,h5,h6,h7⟩|⟨e,h1,h2,h3,h4,h5⟩|⟨e,h1,h2,h3,h4,h5⟩|⟨e,h1,h2,h3,h4,h5⟩|⟨e,h1,h2,h3,h4,h5⟩|⟨e,h1,h2,h3,h4,h5⟩|⟨e,h1,h2,h3,h4,h5⟩
 ·have hk2:k=1:=by omega
  subst hk2
  exact wi_zero (pG_1 (by decide) (by decide)) (by rw [h0 (by decide)];rfl)
 ·have hk2:k=2:=by omega
  subst hk2
  exact wi_zero (by rw [pG_n (by decide)];decide) (by rw [h0 (by decide)];rfl)
 ·have hk2:k=3:=by omega
  subst hk2
  exact wi_zero (by rw [pG_n (by decide)];decide) (by rw [h0 (by decide)];rfl)
 ·have hk2:k=4:=by omega
  subst hk2
  exact wi_zero (by rw [pG_n (by decide)];decide) (by rw [h0 (by decide)];rfl)
 ·have hk2:k=5∨k=6:=by omega
  rcases hk2 with rfl|rfl
  ·exact wi_zero (by rw [pG_n (by decide)];decide) (by rw [h0 (by decide)];rfl)
  ·exact wi_zero (by rw [pG_n (by decide)];decide) (by rw [h0 (by decide)];rfl)
 ·have hk2:k=7∨k=8:=by omega
  rcases hk2 with rfl|rfl
  ·exact wi_zero (by rw [pG_n (by decide)];decide) (by rw [h0 (by decide)];rfl)
  ·have:=hn rfl;exact wi_pos (by rw [pG_n (by decide)];decide) (by omega) (by omega)
 ·have hk2:k=9:=by omega
  subst hk2
  exact wi_zero (by rw [pG_n (by decide)];decide) (by rw [h0 (by decide)];rfl)
theorem gkA (h:okG nS nL s g) (hk:g.k=(k:Int)):(u8And (pG k g.op) 8=0→g.a=.num 0)∧(u8And (pG k g.op) 8≠0→inV s g.a):=by
 rcases h with ⟨e,h1,h2,h3,h4,h5,h6,h7⟩|⟨e,h1,h2,h3,h4,h5⟩|⟨e,h1,h2,h3,h4,h5⟩|⟨e,h1,h2,h3,h4,h5⟩|⟨e,h1,h2,h3,h4,h5⟩|⟨e,h1,h2,h3,h4,h5⟩|⟨e,h1,h2,h3,h4,h5⟩
 ·have hk2:k=1:=by omega
  subst hk2
  exact⟨fun h=>absurd h (by rw [pG_1 (m:=8) (by decide) (by decide)];decide),fun _=>h5⟩
 ·have hk2:k=2:=by omega
  subst hk2
  exact⟨fun _=>h4,fun h=>absurd (by rw [pG_n (by decide)];decide) h⟩
 ·have hk2:k=3:=by omega
  subst hk2
  exact⟨fun h=>absurd h (by rw [pG_n (by decide)];decide),fun _=>h4⟩
 ·have hk2:k=4:=by omega
  subst hk2
  exact⟨fun h=>absurd h (by rw [pG_n (by decide)];decide),fun _=>h4⟩
 ·have hk2:k=5∨k=6:=by omega
  rcases hk2 with rfl|rfl
  ·exact⟨fun _=>h4,fun h=>absurd (by rw [pG_n (by decide)];decide) h⟩
  ·exact⟨fun _=>h4,fun h=>absurd (by rw [pG_n (by decide)];decide) h⟩
 ·have hk2:k=7∨k=8:=by omega
  rcases hk2 with rfl|rfl
  ·exact⟨fun h=>absurd h (by rw [pG_n (by decide)];decide),fun _=>h4⟩
  ·exact⟨fun h=>absurd h (by rw [pG_n (by decide)];decide),fun _=>h4⟩
 ·have hk2:k=9:=by omega
  subst hk2
  exact⟨fun _=>h4,fun h=>absurd (by rw [pG_n (by decide)];decide) h⟩
theorem gkB (h:okG nS nL s g) (hk:g.k=(k:Int)):(u8And (pG k g.op) 16=0→g.b=.num 0)∧(u8And (pG k g.op) 16≠0→inV s g.b):=by
 rcases h with ⟨e,h1,h2,h3,h4,h5,h6,h7⟩|⟨e,h1,h2,h3,h4,h5⟩|⟨e,h1,h2,h3,h4,h5⟩|⟨e,h1,h2,h3,h4,h5⟩|⟨e,h1,h2,h3,h4,h5⟩|⟨e,h1,h2,h3,h4,h5⟩|⟨e,h1,h2,h3,h4,h5⟩
 ·have hk2:k=1:=by omega
  subst hk2
  by_cases ht:twoOp g.op=true
  ·exact⟨fun h=>by unfold pG at h;rw [if_pos ⟨rfl,ht⟩] at h;exact absurd h (by decide),fun _=>h6⟩
  ·exact⟨fun _=>h7 (by simpa using ht),fun h=>absurd (by unfold pG;rw [if_neg (fun h=>ht h.2)];decide) h⟩
 ·have hk2:k=2:=by omega
  subst hk2
  exact⟨fun _=>h5,fun h=>absurd (by rw [pG_n (by decide)];decide) h⟩
 ·have hk2:k=3:=by omega
  subst hk2
  exact⟨fun _=>h5,fun h=>absurd (by rw [pG_n (by decide)];decide) h⟩
 ·have hk2:k=4:=by omega
  subst hk2
  exact⟨fun _=>h5,fun h=>absurd (by rw [pG_n (by decide)];decide) h⟩
 ·have hk2:k=5∨k=6:=by omega
  rcases hk2 with rfl|rfl
  ·exact⟨fun _=>h5,fun h=>absurd (by rw [pG_n (by decide)];decide) h⟩
  ·exact⟨fun _=>h5,fun h=>absurd (by rw [pG_n (by decide)];decide) h⟩
 ·have hk2:k=7∨k=8:=by omega
  rcases hk2 with rfl|rfl
  ·exact⟨fun _=>h5,fun h=>absurd (by rw [pG_n (by decide)];decide) h⟩
  ·exact⟨fun _=>h5,fun h=>absurd (by rw [pG_n (by decide)];decide) h⟩
 ·have hk2:k=9:=by omega
  subst hk2
  exact⟨fun _=>h5,fun h=>absurd (by rw [pG_n (by decide)];decide) h⟩
end
theorem parts_any (g:Gn) (k:Nat) (hk:g.k=(k:Int)) (h9:k≤9) (og:Nat) (w:World):Ret Tryz.prog 58 [.agg (gnC g og).toArray] w fun v w'=>v=.int .u8 (pG k g.op)∧Chg [] w w':=by
 refine ret_of [_] func58 rfl ntmps58 rfl ?_
 have st:=St.init w []
 refine sr ?_
 refine vc_e (e_bx (l:=[_,_,_,_,_,_,_,_,_,_,_,_,_]) st rfl rfl rfl rfl ?_)
 intro b1 w hb1 st
 refine ya ?_
 refine et (vk1 1 (sr ?_))
 refine vy (ybd (.agg #[_,_,_,_,_,_,_,_,_,_]) [(1,_),(2,_),(3,_),(4,_),(5,_),(6,_),(7,_),(8,_),(9,_)]) ?_
 refine vc_e (e_al (l:=[_,_,_,_,_,_,_,_,_,_]) st rfl rfl zeroValue180 rfl ?_)
 intro b3 w hb3 st
 refine vc_e (ests st 0 [_,_,_,_,_,_,_,_,_,_] sizeOf180 ?_)
 intro w st;dsimp only [setNth,wr] at st
 refine et (vk2 1 3 (sr ?_))
 refine vy (y_fa0 rfl underlying83 rfl rfl sizeOf79 rfl) ?_
 refine yl st 1 isAgg79 ?_
 refine vy (y_iaa (k:=k) rfl rfl underlying180 sizeOf147 hk (by omega)) ?_
 refine vy (y_ld st 0 rfl isAgg147 rfl (by exact tbG_at0 h9)) ?_
 refine ya ?_
 refine et (vk2 1 4 (vc_seq (sr ?_)))
 refine vy (y_fa0 rfl underlying83 rfl rfl sizeOf79 rfl) ?_
 refine yl st 1 isAgg79 ?_
 refine vy (y_eqi rfl rfl) ?_
 refine vmb ?_ ?_
 ·intro hg13
  try simp only [dn] at hg13
  have hk1:k=1:=by omega
  subst hk1
  refine yfz 1 underlying83 sizeOf57 ?_
  refine yl st 1 isAgg57 ?_
  refine vc_e (e_call [_] rfl rfl call33 rfl (two_any _ _) ?_)
  rintro _ _ ⟨rfl,rfl⟩
  refine ypt ?_
  refine et (vk2 4 17 ?_)
  refine vif ?_ ?_
  ·intro hc17
   try simp only [dn] at hc17
   refine vc_region ?_
   refine ym ?_
   refine vy (y_or rfl rfl rfl) ?_
   refine ya ?_
   refine et (vk1 4 (sr ?_))
   refine ym ?_
   refine ya ?_
   refine et (vk1 2 (vc_ret ?_))
   refine vr1 st results58 ?_
   refine⟨?_,st.chg⟩
   unfold pG
   rw [if_pos ⟨rfl,by assumption⟩];rfl
  intro hc17
  try simp only [dn] at hc17
  refine kt (vk1 4 (sr ?_))
  refine ym ?_
  refine ya ?_
  refine et (vk1 2 (vc_ret ?_))
  refine vr1 st results58 ?_
  refine⟨?_,st.chg⟩
  unfold pG
  rw [if_neg (fun h=>by simp_all)]
 intro hg13
 try simp only [dn] at hg13
 have hk1:k≠1:=by omega
 iterate 3 refine vsk ?_
 refine ypf ?_
 refine et (vk2 4 17 ?_)
 refine vc_iff rfl ?_
 refine kt (vk1 4 (sr ?_))
 refine ym ?_
 refine ya ?_
 refine et (vk1 2 (vc_ret ?_))
 refine vr1 st results58 ?_
 refine⟨?_,st.chg⟩
 unfold pG
 rw [if_neg (fun h=>hk1 h.1)]
theorem within_any (p has k most:Int) (pb E:Nat) (fz:Nat×Nat) (w:World) (hp:w.heap[pb]?=some (.cells [.int .u8 p].toArray E fz)):Ret Tryz.prog 59 [.int .i64 k,.int .u8 has,.int .i64 most,.pointer (some ⟨pb,0,none⟩)] w fun v w'=>v=.bool (wiB p has k most)∧w'=w:=by
 refine ret_of [_,_,_,_] func59 rfl ntmps59 rfl ?_
 have st:=St.init w []
 replace st:=St.of1 [] hp
 refine sr ?_
 refine ya ?_
 refine et (vk4 0 1 2 3 (sr ?_))
 refine yl st 0 isAgg147 ?_
 refine ym ?_
 refine vy (y_and (r:=u8And p has) rfl rfl rfl) ?_
 refine vy (y_eqi rfl rfl) ?_
 refine vmb ?_ ?_
 focus
  intro hg12
  try simp only [dn] at hg12
  refine ym ?_
  refine vy (y_eqi rfl rfl) ?_
  refine ypt ?_
  refine vmb ?_ ?_
  intro hg16
  try simp only [dn] at hg16
  iterate 13 refine vsk ?_
  refine ypt ?_
  rotate_left
  focus
   intro hg16
   try simp only [dn] at hg16
   refine yl st 0 isAgg147 ?_
   refine ym ?_
   refine vy (y_and (r:=u8And p has) rfl rfl rfl) ?_
   refine vy (y_nei rfl rfl) ?_
   refine vmb ?_ ?_
   focus
    intro hg21
    try simp only [dn] at hg21
    refine ym ?_
    refine vy (y_geq rfl rfl) ?_
    refine ypt ?_
    refine vmb ?_ ?_
    intro hg25
    try simp only [dn] at hg25
    iterate 2 refine ym ?_
    refine vy (y_lss rfl rfl) ?_
    refine ypt ?_
    rotate_left
    intro hg25
    try simp only [dn] at hg25
    iterate 3 refine vsk ?_
    refine ypf ?_
   rotate_left 2
   intro hg21
   try simp only [dn] at hg21
   iterate 2 refine vsk ?_
   refine ypf ?_
   refine ym ?_
   iterate 3 refine vsk ?_
   refine ypf ?_
   all_goals
    refine ypf ?_
 rotate_left 4
 focus
  intro hg12
  try simp only [dn] at hg12
  iterate 2 refine vsk ?_
  refine ypf ?_
  refine ym ?_
  refine yl st 0 isAgg147 ?_
  refine ym ?_
  refine vy (y_and (r:=u8And p has) rfl rfl rfl) ?_
  refine vy (y_nei rfl rfl) ?_
  refine vmb ?_ ?_
  focus
   intro hg21
   try simp only [dn] at hg21
   refine ym ?_
   refine vy (y_geq rfl rfl) ?_
   refine ypt ?_
   refine vmb ?_ ?_
   intro hg25
   try simp only [dn] at hg25
   iterate 2 refine ym ?_
   refine vy (y_lss rfl rfl) ?_
   refine ypt ?_
   rotate_left
   intro hg25
   try simp only [dn] at hg25
   iterate 3 refine vsk ?_
   refine ypf ?_
  rotate_left 2
  intro hg21
  try simp only [dn] at hg21
  iterate 2 refine vsk ?_
  refine ypf ?_
  refine ym ?_
  iterate 3 refine vsk ?_
  refine ypf ?_
  all_goals
   refine ypf ?_
 all_goals
  refine ya ?_
  refine et (vk1 7 (vc_ret ?_))
  refine vr1 st results59 ?_
  refine⟨?_,rfl⟩
  show Value.bool _=Value.bool _
  congr 1
  unfold wiB
  symm
  simp_all <;> omega
theorem fieldsV:(Tryz.prog.fieldsOf 81).toList.map (fun f=>(f.name,f.type,f.offset))=[("IsSlot",4,0),("Slot",3,1),("Word",2,2)]:=by kernel_rfl
theorem eqFieldsV (w:World):(Op.eqFields 9999 [.bool false,.int .i64 0,.int .i64 0].toArray [.bool false,.int .i64 0,.int .i64 0].toArray (Tryz.prog.fieldsOf 81).toList).run Tryz.prog w=.ok true w:=by
 have h:=fieldsV
 match hf:(Tryz.prog.fieldsOf 81).toList with
 | [a,b,c]=>
  rw [hf] at h
  simp only [List.map_cons,List.map_nil,List.cons.injEq,Prod.mk.injEq,and_true] at h
  obtain⟨⟨a1,a2,a3⟩,⟨b1,b2,b3⟩,c1,c2,c3⟩:=h
  have e1:∀ w,(part 4 [.bool false,.int .i64 0,.int .i64 0].toArray 0).run Tryz.prog w=.ok (.bool false) w:=fun w=>run_part1 isAgg4 rfl
  have e2:∀ w,(part 3 [.bool false,.int .i64 0,.int .i64 0].toArray 1).run Tryz.prog w=.ok (.int .i64 0) w:=fun w=>run_part1 isAgg3 rfl
  have e3:∀ w,(part 2 [.bool false,.int .i64 0,.int .i64 0].toArray 2).run Tryz.prog w=.ok (.int .i64 0) w:=fun w=>run_part1 isAgg2 rfl
  have r1:=run_equalIn_bool (P:=Tryz.prog) w 9998 4 false false underlying4
  have r2:=run_equalIn_int (P:=Tryz.prog) w 9998 3 .i64 .i64 0 0 underlying3
  have r3:=run_equalIn_int (P:=Tryz.prog) w 9998 2 .i64 .i64 0 0 underlying2
  simp only [Op.eqFields,a1,a2,a3,b1,b2,b3,c1,c2,c3,Sem.run_bind,Sem.run_ite,e1,e2,e3,Result.andThen_ok]
  simp only [ne_eq,String.reduceEq,not_false_eq_true,if_true,Sem.run_bind,Sem.run_ite,e1,e2,e3,r1,r2,r3,Result.andThen_ok,Sem.run_pure]
  simp
 | []=>rw [hf] at h;simp at h
 | [_]=>rw [hf] at h;simp at h
 | [_,_]=>rw [hf] at h;simp at h
 | _::_::_::_::_=>rw [hf] at h;simp at h
section
variable {n:Fr} {kn:Kn} {w:World} {d ty:Nat} {pos:String} {aft:Array Edge} {g:Option (Nat×Bool)}
theorem y_eqV0 {U:Nat} {x y:Operand} (hx:evO kn x=some (.agg [.bool false,.int .i64 0,.int .i64 0].toArray)) (hy:evO kn y=some (.agg [.bool false,.int .i64 0,.int .i64 0].toArray)):Y Tryz.prog n kn w ⟨some d,.binOp .eql 81 x y U,ty,pos,aft,g⟩ (.bool true):=
 y_bo hx hy (by
   have h1:=run_eqGuard_agg (P:=Tryz.prog) w .eql 81 x y [.bool false,.int .i64 0,.int .i64 0].toArray [.bool false,.int .i64 0,.int .i64 0].toArray (by kernel_rfl)
   have h2:=run_eql_struct (P:=Tryz.prog) w 81 [.bool false,.int .i64 0,.int .i64 0].toArray [.bool false,.int .i64 0,.int .i64 0].toArray
   rw [run_equalIn_agg w 9999 81 _ _ (by kernel_rfl) (by kernel_rfl),eqFieldsV] at h2
   simp only [Sem.run_bind,h1,Result.andThen_ok]
   have h3:(binOp .eql 81 (.agg [.bool false,.int .i64 0,.int .i64 0].toArray) (.agg [.bool false,.int .i64 0,.int .i64 0].toArray)).run Tryz.prog w=.ok (.bool true) w:=by rw [h2];rfl
   exact h3)
end
theorem vok_any (p has:Int) (v:Vl) (nm:Wd) (lc s pb gb E E2:Nat) (nv:Value) (fz fz2:Nat×Nat) (w:World) (hp:w.heap[pb]?=some (.cells [.int .u8 p].toArray E fz)) (hg:w.heap[gb]?=some (.cells [str nm,.int .i64 (lc:Int),.int .i64 (s:Int),nv].toArray E2 fz2)) (hne:pb≠gb) (hv:(u8And p has=0→v=.num 0)∧(u8And p has≠0→inV s v)) :
    Ret Tryz.prog 60 [.agg (vlC v).toArray,.int .u8 has,.pointer (some ⟨pb,0,none⟩),.pointer (some ⟨gb,0,none⟩)] w fun r w'=>r=.bool true∧Chg [] w w':=by
 refine ret_of [_,_,_,_] func60 rfl ntmps60 rfl ?_
 have st:=St.init w []
 replace st:=St.of2 [] hp hg hne
 refine sr ?_
 refine vc_e (e_bx (l:=[_,_,_]) st rfl rfl rfl rfl ?_)
 intro b4 w hb4 st
 refine ya ?_
 refine et (vk4 1 2 3 4 (vc_seq (vc_block (sr ?_))))
 refine yl st 1 isAgg147 ?_
 refine ym ?_
 refine vy (y_and (r:=u8And p has) rfl rfl rfl) ?_
 refine vy (y_eqi rfl rfl) ?_
 refine ya ?_
 refine et (vk3 3 4 7 ?_)
 refine vif ?_ ?_
 ·intro hc7
  try simp only [dn] at hc7
  obtain rfl:=hv.1 hc7
  refine sr ?_
  refine yla st 0 [_,_,_] isAgg81 sizeOf81 ?_
  refine vy (ybd (.agg #[_,_,_]) []) ?_
  refine vy (y_eqV0 rfl rfl) ?_
  refine ya ?_
  refine et (vk1 6 (vc_ret (vq_block_ret (vq_then_ret ?_))))
  refine vr1 st results60 ?_
  exact⟨rfl,st.chg⟩
 intro hc7
 try simp only [dn] at hc7
 have hin:=hv.2 hc7
 refine sr ?_
 refine vy (y_fa0 rfl underlying81 rfl rfl sizeOf4 rfl) ?_
 refine yl st 0 isAgg4 ?_
 refine ya ?_
 refine et (vk3 3 4 15 ?_)
 refine vif ?_ ?_
 focus
  intro hc15
  try simp only [dn] at hc15
  obtain⟨k,rfl⟩:∃ k,v=.slot k:=by
   cases v with
   | num w=>exact absurd hc15 (by simp [vB])
   | slot k=>exact⟨k,rfl⟩
  simp only [inV] at hin
  refine sr ?_
  refine yfz 1 underlying81 sizeOf3 ?_
  refine yl st 0 isAgg3 ?_
  refine vy (y_geq rfl rfl) ?_
  refine vmb ?_ ?_
  focus
   intro hg21
   try simp only [dn] at hg21
   refine yfz 1 underlying81 sizeOf3 ?_
   refine yl st 0 isAgg3 ?_
   refine yfz 2 underlying43 sizeOf3 ?_
   refine yl st 2 isAgg3 ?_
   refine vy (y_lss rfl rfl) ?_
   refine ypt ?_
   refine vmb ?_ ?_
   intro hg28
   try simp only [dn] at hg28
   refine yfz 2 underlying81 sizeOf2 ?_
   refine yl st 0 isAgg2 ?_
   refine vy (y_eqi rfl rfl) ?_
   refine ypt ?_
   rotate_left
   intro hg28
   try simp only [dn] at hg28
   iterate 3 refine vsk ?_
   refine ypf ?_
  rotate_left 2
  intro hg21
  try simp only [dn] at hg21
  iterate 5 refine vsk ?_
  refine ypf ?_
  refine ym ?_
  iterate 3 refine vsk ?_
  refine ypf ?_
  all_goals
   refine ya ?_
   refine et (vk1 6 (vc_ret (vq_block_ret (vq_then_ret ?_))))
 rotate_left 3
 intro hc15
 try simp only [dn] at hc15
 obtain⟨k,rfl⟩:∃ k,v=.num k:=by
  cases v with
  | num w=>exact⟨w,rfl⟩
  | slot k=>exact absurd hc15 (by simp [vB])
 refine vc_code_skip (vq_block (vq_then (vk1 4 (sr ?_))))
 refine yfz 1 underlying81 sizeOf3 ?_
 refine yl st 0 isAgg3 ?_
 refine vy (y_eqi rfl rfl) ?_
 refine ya ?_
 refine et (vk1 6 (vc_ret ?_))
 all_goals
  refine vr1 st results60 ?_
  refine⟨?_,st.chg⟩
  first|rfl|(exfalso;simp only [ParS.vS,vW] at *;omega)
set_option maxHeartbeats 1000000 in
theorem right_any (g:Gn) (nS nL s og n lc:Nat) (nm:Wd) (hx:okG nS nL s g) (hog:og<4096) (hnx:g.k≠9→g.nx<n) (hnx0:g.k=9→g.nx=0) (hel:g.k=8→g.el<n) (hel0:g.k≠8→g.el=0) (o1 o2 oa:Option Addr) (c1 c2 nc:Nat) (gsv:Value) (w:World) :
    Ret Tryz.prog 23 [.agg [.slice o1 nS c1,.slice o2 nL c2,gsv].toArray,.agg [str nm,.int .i64 (lc:Int),.int .i64 (s:Int),.slice oa n nc].toArray,.agg (gnC g og).toArray] w fun v w'=>v=.bool true∧Chg [] w w':=by
 obtain⟨k,hk,hk1,hk9⟩:=okG_k hx
 replace hnx:k≠9→g.nx<n:=fun h=>hnx (by omega)
 replace hnx0:k=9→g.nx=0:=fun h=>hnx0 (by omega)
 replace hel:k=8→g.el<n:=fun h=>hel (by omega)
 replace hel0:k≠8→g.el=0:=fun h=>hel0 (by omega)
 have hO:0≤g.op∧g.op<19:=by
  rcases hx with ⟨-,h1,h2,-⟩|⟨-,h1,-⟩|⟨-,h1,-⟩|⟨-,h1,-⟩|⟨-,h1,-⟩|⟨-,h1,-⟩|⟨-,h1,-⟩ <;> omega
 refine ret_of [_,_,_] func23 rfl ntmps23 rfl ?_
 have st:=St.init w []
 obtain⟨w0,rfl⟩:∃ w0,w0=w:=⟨_,rfl⟩
 refine sr ?_
 refine vc_e (e_bx (l:=[_,_,_]) st rfl rfl rfl rfl ?_)
 intro b3 w hb3 st
 refine vc_e (e_bx (l:=[_,_,_,_]) st rfl rfl rfl rfl ?_)
 intro b4 w hb4 st
 refine vc_e (e_bx (l:=[_,_,_,_,_,_,_,_,_,_,_,_,_]) st rfl rfl rfl rfl ?_)
 intro b5 w hb5 st
 refine ya ?_
 refine et (vk3 3 4 5 (vc_seq (sr ?_)))
 refine vy (y_fa0 rfl underlying83 rfl rfl sizeOf79 rfl) ?_
 refine yl st 0 isAgg79 ?_
 refine vy (y_eqi rfl rfl) ?_
 refine vmb ?_ ?_
 ·intro hg14
  exfalso;simp only [decide_eq_true_eq] at hg14;omega
 intro hg14
 try simp only [dn] at hg14
 refine vy (y_fa0 rfl underlying83 rfl rfl sizeOf79 rfl) ?_
 refine yl st 0 isAgg79 ?_
 refine vy (y_geq rfl rfl) ?_
 refine ypf ?_
 refine vmb ?_ ?_
 ·intro hg19
  exfalso;simp only [decide_eq_true_eq] at hg19;omega
 intro hg19
 try simp only [dn] at hg19
 refine yfz 12 underlying83 sizeOf3 ?_
 refine yl st 0 isAgg3 ?_
 refine vy (y_lss rfl rfl) ?_
 refine ypf ?_
 refine vmb ?_ ?_
 ·intro hg24
  exfalso;simp only [decide_eq_true_eq] at hg24;omega
 intro hg24
 try simp only [dn] at hg24
 refine yfz 12 underlying83 sizeOf3 ?_
 refine yl st 0 isAgg3 ?_
 refine vy (y_geq rfl rfl) ?_
 refine ypf ?_
 refine et (vk4 3 4 5 28 ?_)
 refine vif ?_ ?_
 ·intro hc28
  exfalso;simp only [decide_eq_true_eq] at hc28;omega
 intro hc28
 try simp only [dn] at hc28
 refine kt (vk3 3 4 5 (sr ?_))
 refine yla st 0 [_,_,_,_,_,_,_,_,_,_,_,_,_] isAgg83 sizeOf83 ?_
 refine vc_e (e_call [_] rfl rfl call58 rfl (parts_any g k hk hk9 og _) ?_)
 rintro _ w ⟨rfl,cw⟩
 replace st:=st.call0 cw
 refine vc_e (e_al (l:=[_]) st rfl rfl zeroValue147 rfl ?_)
 intro b7 w hb7 st
 refine vc_e (est st 0 sizeOf147 ?_)
 intro w st;dsimp only [setNth,wr] at st
 refine et (vk4 3 4 5 7 (sr ?_))
 refine vy (y_mf [] [_] rfl rfl) ?_
 refine ya ?_
 refine et (vk5 3 4 5 7 8 (sr ?_))
 refine vy (y_mf [] [_,_] rfl rfl) ?_
 refine ya ?_
 refine et (vk5 3 4 5 8 9 (sr ?_))
 refine vy (y_fa0 rfl underlying36 rfl rfl sizeOf23 rfl) ?_
 refine yl st 3 isAgg23 ?_
 refine vy (y_lensl rfl underlying23) ?_
 refine ya ?_
 refine et (vk6 3 4 5 8 9 10 ?_)
 refine vc_cut (w0:=w0) (M:=[]) (fun (y:Int)=>[(4,.pointer (some ⟨b4,0,none⟩)),(5,.pointer (some ⟨b5,0,none⟩)),(8,.func (.func 59) #[] [.pointer (some ⟨b7,0,none⟩)].toArray),(9,.func (.func 60) #[] [.pointer (some ⟨b7,0,none⟩),.pointer (some ⟨b4,0,none⟩)].toArray),(10,.int .i64 y)]) (fun y=>[.blk b7 (.cells [.int .u8 (pG k g.op)].toArray 147 (0,0)),.blk b5 (.cells (gnC g og).toArray 83 (0,0)),.blk b4 (.cells [str nm,.int .i64 (lc:Int),.int .i64 (s:Int),.slice oa n nc].toArray 43 (0,0))]) (fun y w=>y=(if k=5∨k=6 then (nL:Int) else (nS:Int))) ?_ ?_
 ·refine vc_seq ?_
  refine vc_region ?_
  refine vy (y_fa0 rfl underlying83 rfl rfl sizeOf79 rfl) ?_
  refine yl st 1 isAgg79 ?_
  refine vy (y_eqi rfl rfl) ?_
  refine vmb ?_ ?_
  ·intro hg39
   try simp only [dn] at hg39
   iterate 3 refine vsk ?_
   refine ypt ?_
   refine et (vk7 3 4 5 8 9 10 43 ?_)
   refine vc_ift rfl ?_
   refine vc_region ?_
   refine yfz 1 underlying36 sizeOf23 ?_
   refine yl st 3 isAgg23 ?_
   refine vy (y_lensl rfl underlying23) ?_
   refine ya ?_
   refine vc_end ?_
   refine vq_meet (nL:Int) ⟨rfl,rfl,rfl,rfl,rfl,trivial⟩ (st.pick [0,1,2] rfl (by decide)) ?_
   ·rw [if_pos (by omega)]
  intro hg39
  try simp only [dn] at hg39
  refine vy (y_fa0 rfl underlying83 rfl rfl sizeOf79 rfl) ?_
  refine yl st 1 isAgg79 ?_
  refine vy (y_eqi rfl rfl) ?_
  refine ypf ?_
  refine et (vk7 3 4 5 8 9 10 43 ?_)
  refine vif ?_ ?_
  ·intro hc43
   try simp only [dn] at hc43
   refine vc_region ?_
   refine yfz 1 underlying36 sizeOf23 ?_
   refine yl st 3 isAgg23 ?_
   refine vy (y_lensl rfl underlying23) ?_
   refine ya ?_
   refine vc_end ?_
   refine vq_meet (nL:Int) ⟨rfl,rfl,rfl,rfl,rfl,trivial⟩ (st.pick [0,1,2] rfl (by decide)) ?_
   ·rw [if_pos (by omega)]
  intro hc43
  try simp only [dn] at hc43
  refine vc_code_skip ?_
  refine vq_meet (nS:Int) ⟨rfl,rfl,rfl,rfl,rfl,trivial⟩ (st.pick [0,1,2] rfl (by decide)) ?_
  ·rw [if_neg (by omega)]
 clear st
 rintro y w rfl st
 refine sr ?_
 refine ym ?_
 refine yfz 1 underlying83 sizeOf57 ?_
 refine yl st 1 isAgg57 ?_
 refine vy (y_cvi rfl underlying3 underlying57 (IntWalk.i64_in g.op ⟨by omega,by omega⟩)) ?_
 refine vc_e (e_callv [_,_,_] rfl rfl rfl call59 rfl (within_any (pG k g.op) 1 g.op 19 b7 _ _ _ (st.res (i:=0) rfl)) ?_)
 rintro _ _ ⟨rfl,rfl⟩
 rw [gk1 hx hk]
 refine vmb ?_ ?_
 ·intro hg52
  try simp only [dn] at hg52
  refine ym ?_
  refine yfz 2 underlying83 sizeOf3 ?_
  refine yl st 1 isAgg3 ?_
  refine yfz 2 underlying43 sizeOf3 ?_
  refine yl st 2 isAgg3 ?_
  refine vc_e (e_callv [_,_,_] rfl rfl rfl call59 rfl (within_any (pG k g.op) 2 g.sl (s:Int) b7 _ _ _ (st.res (i:=0) rfl)) ?_)
  rintro _ _ ⟨rfl,rfl⟩
  rw [gk2 hx hk]
  refine ypt ?_
  refine vmb ?_ ?_
  ·intro hg60
   try simp only [dn] at hg60
   refine ym ?_
   refine yfz 3 underlying83 sizeOf3 ?_
   refine yl st 1 isAgg3 ?_
   refine ym ?_
   refine vc_e (e_callv [_,_,_] rfl rfl rfl call59 rfl (within_any (pG k g.op) 4 g.th _ b7 _ _ _ (st.res (i:=0) rfl)) ?_)
   rintro _ _ ⟨rfl,rfl⟩
   rw [gk3 hx hk]
   refine ypt ?_
   refine vmb ?_ ?_
   ·intro hg67
    try simp only [dn] at hg67
    refine ym ?_
    refine yfz 10 underlying83 sizeOf3 ?_
    refine yl st 1 isAgg3 ?_
    refine yfz 3 underlying43 sizeOf41 ?_
    refine yl st 2 isAgg41 ?_
    refine vy (y_lensl rfl underlying41) ?_
    refine vc_e (e_callv [_,_,_] rfl rfl rfl call59 rfl (within_any (pG k g.op) 32 (g.nx:Int) (n:Int) b7 _ _ _ (st.res (i:=0) rfl)) ?_)
    rintro _ _ ⟨rfl,rfl⟩
    rw [gk4 hx hk hnx hnx0]
    refine ypt ?_
    refine vmb ?_ ?_
    ·intro hg76
     try simp only [dn] at hg76
     refine ym ?_
     refine yfz 11 underlying83 sizeOf3 ?_
     refine yl st 1 isAgg3 ?_
     refine yfz 3 underlying43 sizeOf41 ?_
     refine yl st 2 isAgg41 ?_
     refine vy (y_lensl rfl underlying41) ?_
     refine vc_e (e_callv [_,_,_] rfl rfl rfl call59 rfl (within_any (pG k g.op) 64 (g.el:Int) (n:Int) b7 _ _ _ (st.res (i:=0) rfl)) ?_)
     rintro _ _ ⟨rfl,rfl⟩
     rw [gk5 hx hk hel hel0]
     refine ypt ?_
     refine vmb ?_ ?_
     ·intro hg85
      try simp only [dn] at hg85
      refine ym ?_
      refine yfz 4 underlying83 sizeOf81 ?_
      refine yla st 1 [_,_,_] isAgg81 sizeOf81 ?_
      refine vc_e (e_callv [_,_] rfl rfl rfl call60 rfl (vok_any (pG k g.op) 8 g.a nm lc s b7 b4 _ _ _ _ _ _ (st.res (i:=0) rfl) (st.res (i:=2) rfl) (st.bne 0 2 (by decide) rfl rfl) (gkA hx hk)) ?_)
      rintro _ w ⟨rfl,cw⟩
      replace st:=st.call0 cw
      refine ypt ?_
      refine vmb ?_ ?_
      ·intro hg91
       try simp only [dn] at hg91
       refine ym ?_
       refine yfz 7 underlying83 sizeOf81 ?_
       refine yla st 1 [_,_,_] isAgg81 sizeOf81 ?_
       refine vc_e (e_callv [_,_] rfl rfl rfl call60 rfl (vok_any (pG k g.op) 16 g.b nm lc s b7 b4 _ _ _ _ _ _ (st.res (i:=0) rfl) (st.res (i:=2) rfl) (st.bne 0 2 (by decide) rfl rfl) (gkB hx hk)) ?_)
       rintro _ w ⟨rfl,cw⟩
       replace st:=st.call0 cw
       refine ypt ?_
       refine ya ?_
       refine et (vk1 6 (vc_ret ?_))
       refine vr1 st results23 ?_
       exact⟨rfl,st.chg⟩
      intro hg91
      exfalso;revert hg91;decide
     intro hg85
     exfalso;revert hg85;decide
    intro hg76
    exfalso;revert hg76;decide
   intro hg67
   exfalso;revert hg67;decide
  intro hg60
  exfalso;revert hg60;decide
 intro hg52
 exfalso;revert hg52;decide
def flG (g:Gn):List Nat:=if g.k=9 then [] else if g.k=8∧g.el≠g.nx then [g.nx,g.el] else [g.nx]
abbrev nV (l:List Nat):List Value:=l.map fun (i:Nat)=>Value.int .i64 (i:Int)
theorem own_base {w:World} {base E size len b:Nat} {l:List Value} (hh:w.heap[b]?=some (.cells l.toArray E (0,0))) (hlen:l.length=len*size) (hm:len≤maxLen) (hb:base≤b):w.ownsRow base E size (.slice (some ⟨b,0,none⟩) len len) len l:=by
 refine⟨hlen,.inr ⟨b,len,l.toArray,rfl,hb,hh,Nat.le_refl _,hm,by simpa using hlen,?_⟩⟩
 simp only [← hlen]
 exact List.take_of_length_le (by simp)
theorem follow_any (g:Gn) (og:Nat) (w:World):Ret Tryz.prog 62 [.agg (gnC g og).toArray] w fun v w'=>(∃ oa cap,v=.slice oa (flG g).length cap∧w'.ownsRow w.heap.size 3 1 (.slice oa (flG g).length cap) (flG g).length (nV (flG g)))∧Chg [] w w':=by
 refine ret_of [_] func62 rfl ntmps62 rfl ?_
 have st:=St.init w []
 obtain⟨w0,rfl⟩:∃ w0,w0=w:=⟨_,rfl⟩
 refine sr ?_
 refine vc_e (e_bx (l:=[_,_,_,_,_,_,_,_,_,_,_,_,_]) st rfl rfl rfl rfl ?_)
 intro b1 w hb1 st
 refine ya ?_
 refine et (vk1 1 (vc_seq (vc_block (sr ?_))))
 refine vy (y_fa0 rfl underlying83 rfl rfl sizeOf79 rfl) ?_
 refine yl st 0 isAgg79 ?_
 refine vy (y_eqi rfl rfl) ?_
 refine ya ?_
 refine et (vk2 1 3 ?_)
 refine vif ?_ ?_
 ·intro hc3
  try simp only [dn] at hc3
  refine sr ?_
  refine ya ?_
  refine et (vk1 2 (vc_ret (vq_block_ret (vq_then_ret ?_))))
  refine vr1 st results62 ?_
  have e:flG g=[]:=by unfold flG;rw [if_pos (by assumption)]
  rw [e]
  exact⟨⟨none,0,rfl,World.ownsRow_nil _ _ _ _⟩,st.chg⟩
 intro hc3
 try simp only [dn] at hc3
 refine sr ?_
 refine vy (y_fa0 rfl underlying83 rfl rfl sizeOf79 rfl) ?_
 refine yl st 0 isAgg79 ?_
 refine vy (y_eqi rfl rfl) ?_
 refine vmb ?_ ?_
 ·intro hg11
  try simp only [dn] at hg11
  refine yfz 11 underlying83 sizeOf3 ?_
  refine yl st 0 isAgg3 ?_
  refine yfz 10 underlying83 sizeOf3 ?_
  refine yl st 0 isAgg3 ?_
  refine vy (y_nei rfl rfl) ?_
  refine ypt ?_
  refine ya ?_
  refine et (vk2 1 7 ?_)
  refine vif ?_ ?_
  ·intro hc7
   try simp only [dn] at hc7
   refine sr ?_
   refine yfz 10 underlying83 sizeOf3 ?_
   refine yl st 0 isAgg3 ?_
   refine yfz 11 underlying83 sizeOf3 ?_
   refine yl st 0 isAgg3 ?_
   refine vc_e (e_bsn (l:=[(g.nx:Int),(g.el:Int)].map iV) (E:=3) st [(0,_),(1,_)] rfl rfl rfl (fun w=>by simp [Instr.buildSlice,run_underlying underlying44,sizeOf3,zeroValue3,Instr.fill,newRow,newObj,Sem.run,go_sem,Value.cells]) ?_)
   intro b22 w hb22 st
   refine ya ?_
   refine et (vk1 2 (vc_ret (vq_block_ret (vq_then_ret ?_))))
   refine vr1 st results62 ?_
   have e:flG g=[g.nx,g.el]:=by unfold flG;rw [if_neg (by omega),if_pos ⟨by omega,by omega⟩]
   rw [e]
   exact⟨⟨_,_,rfl,own_base (st.res (i:=0) rfl) rfl (by simp [maxLen]) hb22⟩,st.chg⟩
  intro hc7
  try simp only [dn] at hc7
  refine vc_code_skip (vq_block (vq_then (vk1 1 (sr ?_))))
  refine yfz 10 underlying83 sizeOf3 ?_
  refine yl st 0 isAgg3 ?_
  refine vc_e (e_bs1 (l:=[_]) st rfl rfl rfl rfl underlying44 sizeOf3 rfl rfl rfl zeroValue3 ?_)
  intro b25 w hb25 st
  refine ya ?_
  refine et (vk1 2 (vc_ret ?_))
  refine vr1 st results62 ?_
  have e:flG g=[g.nx]:=by unfold flG;rw [if_neg (by omega),if_neg (fun h=>by omega)]
  rw [e]
  exact⟨⟨_,_,rfl,own_base (st.res (i:=0) rfl) rfl (by simp [maxLen]) (by assumption)⟩,st.chg⟩
 intro hg11
 try simp only [dn] at hg11
 iterate 5 refine vsk ?_
 refine ypf ?_
 refine ya ?_
 refine et (vk2 1 7 ?_)
 refine vc_iff rfl ?_
 refine vc_code_skip (vq_block (vq_then (vk1 1 (sr ?_))))
 refine yfz 10 underlying83 sizeOf3 ?_
 refine yl st 0 isAgg3 ?_
 refine vc_e (e_bs1 (l:=[_]) st rfl rfl rfl rfl underlying44 sizeOf3 rfl rfl rfl zeroValue3 ?_)
 intro b25 w hb25 st
 refine ya ?_
 refine et (vk1 2 (vc_ret ?_))
 refine vr1 st results62 ?_
 have e:flG g=[g.nx]:=by unfold flG;rw [if_neg (by omega),if_neg (fun h=>by omega)]
 rw [e]
 exact⟨⟨_,_,rfl,own_base (st.res (i:=0) rfl) rfl (by simp [maxLen]) (by assumption)⟩,st.chg⟩
theorem Tryz.info3b:Tryz.prog.info? 3=some Tryz.t3:=by kernel_rfl
theorem iL_one (l:List Int):∀ u∈iL l,u.oneCell'=true:=by
 intro u hu
 obtain⟨x,-,rfl⟩:=List.mem_map.1 hu
 rfl
theorem own_kept0 {w w':World} {base E size n m cap:Nat} {oa:Option Addr} {xs:List Value} (h:w.ownsRow base E size (.slice oa m cap) n xs) (ch:Chg [] w w'):w'.ownsRow base E size (.slice oa m cap) n xs:=
 owns_kept h fun b hb=>ch.block b (owns_lt h b hb).2 (by simp)
theorem iclone_any (l:List Int) (oa:Option Addr) (c:Nat) (hl:l.length≤1099511627776) (w:World) (h:w.ownsRow 0 3 1 (.slice oa l.length c) l.length (iL l)):Ret Tryz.prog 61 [.slice oa l.length c] w fun v w'=>(∃ o' c',v=.slice o' l.length c'∧w'.ownsRow w.heap.size 3 1 (.slice o' l.length c') l.length (iL l))∧Chg [] w w':=by
 refine ret_of [_] func61 rfl ntmps61 rfl ?_
 have st:=St.init w []
 obtain⟨w0,rfl⟩:∃ w0,w0=w:=⟨_,rfl⟩
 refine sr ?_
 refine ya ?_
 refine et (vk1 0 (vc_seq (sr ?_)))
 refine ym ?_
 refine vy (y_eqsn rfl rfl underlying44) ?_
 refine et (vk2 0 4 ?_)
 refine vif ?_ ?_
 ·intro hc4
  try simp only [dn] at hc4
  have h0:oa=none:=by simpa using hc4
  subst h0
  have hl0:l=[]:=by
   rcases Nat.eq_zero_or_pos l.length with h1|h1
   ·exact List.eq_nil_of_length_eq_zero h1
   ·obtain⟨b,c2,e,-⟩:=own_form h h1
    cases e
  subst hl0
  refine sr ?_
  refine ya ?_
  refine et (vk1 2 (vc_ret (vq_then_ret ?_)))
  refine vr1 st results61 ?_
  exact⟨⟨none,0,rfl,World.ownsRow_nil _ _ _ _⟩,st.chg⟩
 intro hc4
 try simp only [dn] at hc4
 refine kt (vk1 0 (sr ?_))
 refine vc_e (e_bs0 st rfl rfl underlying44 sizeOf3 ?_)
 intro b5 w hb5 st
 refine ym ?_
 refine vc_e (e_appr (bytes:=8) (l:=iL l) (len':=l.length) (ys:=iL l) st 0 rfl rfl rfl rfl rfl (ownsRow_rd (own_kept0 h st.chg) (by decide)) underlying44 Tryz.info3b rfl rfl rfl rfl rfl (by simp) (iL_one l) (by unfold maxLen;omega) (by omega) (by omega) rfl ?_)
 intro o7 c7 w st;dsimp only [setNth] at st
 refine ya ?_
 refine et (vk1 2 (vc_ret ?_))
 refine vr1 st results61 ?_
 exact⟨⟨o7,c7,rfl,st.res (i:=0) rfl⟩,st.chg⟩
theorem iequal_any (l:List Int) (oa ob:Option Addr) (ca cb:Nat) (hl:l.length≤1099511627776) (w:World) (ha:w.ownsRow 0 3 1 (.slice oa l.length ca) l.length (iL l)) (hb:w.ownsRow 0 3 1 (.slice ob l.length cb) l.length (iL l)):Ret Tryz.prog 63 [.slice oa l.length ca,.slice ob l.length cb] w fun v w'=>v=.bool true∧Chg [] w w':=by
 refine ret_of [_,_] func63 rfl ntmps63 rfl ?_
 have st:=St.init w []
 obtain⟨w0,rfl⟩:∃ w0,w0=w:=⟨_,rfl⟩
 refine sr ?_
 refine ya ?_
 refine et (vk2 0 1 (vc_seq (sr ?_)))
 refine ym ?_
 refine vy (y_lensl rfl underlying44) ?_
 refine ym ?_
 refine vy (y_lensl rfl underlying44) ?_
 refine vy (y_nei rfl rfl) ?_
 refine et (vk3 0 1 10 ?_)
 refine vif ?_ ?_
 ·intro hc10
  exact absurd hc10 (by simp)
 intro hc10
 try simp only [dn] at hc10
 refine kt (vk2 0 1 (vc_seq (sr ?_)))
 refine ym ?_
 refine vy (y_lensl rfl underlying44) ?_
 refine ym ?_
 refine et (vk4 0 1 12 13 (vc_block ?_))
 refine vc_loop (w0:=w0) (M:=[]) (fun (j:Nat)=>[(0,.slice oa l.length ca),(1,.slice ob l.length cb),(12,.int .i64 (l.length:Int)),(13,.int .i64 (j:Int))]) (fun _=>[]) (fun j w'=>j≤l.length) (fun j=>l.length - j) 0 ⟨rfl,rfl,rfl,rfl,trivial⟩ st (by simp) ?_
 clear st
 rintro j w hj st
 refine sr ?_
 refine vy (y_lss rfl rfl) ?_
 refine et (vk5 0 1 12 13 14 (vc_seq ?_))
 refine vif ?_ ?_
 ·intro hc14
  try simp only [dn] at hc14
  have stK:=st
  obtain⟨a1,a2,e,-⟩:=own_form ha (by omega)
  simp only [Value.slice.injEq,true_and] at e
  obtain⟨rfl,rfl⟩:=e
  obtain⟨b1,b2,e,-⟩:=own_form hb (by omega)
  simp only [Value.slice.injEq,true_and] at e
  obtain⟨rfl,rfl⟩:=e
  have hjl:(iL l)[j*1]?=some (.int .i64 (l.getD j 0)):=by rw [← nth_eq];exact iL_nth (by omega)
  have st:=stK
  refine kt (vk4 0 1 12 13 (vc_seq (vc_block (sr ?_))))
  refine ym ?_
  refine ya ?_
  refine et (vk5 0 1 5 12 13 (vc_seq ?_))
  refine vdr0 Tryz.mixed [Yt 0,Yt 1,Yt 2,Yt 3,Yt 4,Yt 5,Yt 6,Yt 7,Yt 8] st ?_
  clear st;intro w st hS
  iterate 2 refine pm hS ?_
  refine vp_take rfl rfl rfl hS (fun w st=>y_ia0 (k:=j) rfl rfl underlying44 sizeOf3 rfl (by omega)) ?_
  refine vp_take rfl rfl rfl hS (fun w st=>y_ldc rfl isAgg3 (st.chg.cell (own_cell ha hjl) (by simp))) ?_
  iterate 2 refine pm hS ?_
  refine vp_take rfl rfl rfl hS (fun w st=>y_ia0 (k:=j) rfl rfl underlying44 sizeOf3 rfl (by omega)) ?_
  refine vp_take rfl rfl rfl hS (fun w st=>y_ldc rfl isAgg3 (st.chg.cell (own_cell hb hjl) (by simp))) ?_
  refine vp_take rfl rfl rfl hS (fun w st=>y_nei rfl rfl) ?_
  refine vp_end (vq_then (vk5 0 1 12 13 24 ?_))
  refine vif ?_ ?_
  ·intro hc24
   exact absurd hc24 (by simp)
  intro hc24
  try simp only [dn] at hc24
  refine vc_code_skip (vq_block (vq_then (vk4 0 1 12 13 (vc_region ?_))))
  refine vy (y_add rfl rfl (by omega:_=((j+1:Nat):Int)) (by omega) (by omega)) ?_
  refine ym ?_
  refine vc_end ?_
  refine vq_again (j+1)  ⟨rfl,rfl,rfl,rfl,trivial⟩ st ?_ ?_
  ·omega
  omega
 intro hc14
 try simp only [dn] at hc14
 refine vc_exit (vq_then_exit (vq_then_exit (vq_block_exit (vq_then (vc_keep [] trivial (sr ?_))))))
 refine ya ?_
 refine et (vk1 4 (vc_ret ?_))
 refine vr1 st results63 ?_
 exact⟨rfl,st.chg⟩
end Go.Proofs.YtkhpdpenlnhbiaaGreatDoor
