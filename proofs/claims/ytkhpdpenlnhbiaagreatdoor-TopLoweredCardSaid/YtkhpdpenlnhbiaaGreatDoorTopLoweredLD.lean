/- A part of the proof: contracts of functions and plain laws; each theorem says its own conditions. -/
import Derived.Test.YtkhpdpenlnhbiaaGreatDoorTopLoweredK7
import Derived.Test.YtkhpdpenlnhbiaaGreatDoorTopLoweredK25
import Derived.Test.YtkhpdpenlnhbiaaGreatDoorTopLoweredK18
namespace Go.Proofs.YtkhpdpenlnhbiaaGreatDoor
open Go.RowKit Sx LexS ParS _root_.Go.Proofs.Tryz
set_option linter.unusedVariables false
set_option linter.unusedSimpArgs false
theorem getF_app {s t:Wd} {v:Value}:∀ {kv:List (Wd×Value)},getF (kv++[(t,v)]) s=match getF kv s with|some u=>some u|none=>if s=t then some v else none
 | []=>by simp [getF]
 | (k,u)::r=>by
  rw [List.cons_append,getF,getF]
  by_cases h:s=k
  ·simp [h]
  ·simp only [h,if_false];rw [getF_app]
def tpl:List (Wd×Int)→Wd→Int
 | [],_=>0
 | x::r,s=>if x.1=s then x.2 else tpl r s
theorem tpl_app {s t:Wd} {v:Int}:∀ {l:List (Wd×Int)},(∀ x∈l,x.2≠0)→tpl (l++[(t,v)]) s=if tpl l s=0 then (if t=s then v else 0) else tpl l s
 | [],_=>by simp [tpl]
 | x::r,h=>by
  rw [List.cons_append,tpl,tpl]
  by_cases e:x.1=s
  ·simp [e,h x (.head _)]
  ·simp only [e,if_false];exact tpl_app fun y hy=>h y (.tail _ hy)
def KvOk (kv:List (Wd×Value)) (f:Wd→Int):Prop:=∀ s,getF kv s=if f s=0 then none else some (.int .i64 (f s))
theorem KvOk.put {kv:List (Wd×Value)} {l:List (Wd×Int)} {t:Wd} {k:Int} (h:KvOk kv (tpl l)) (h0:∀ x∈l,x.2≠0) (hk:k≠0) (e:tpl l t=0):KvOk (kv++[(t,.int .i64 k)]) (tpl (l++[(t,k)])):=by
 intro s
 rw [getF_app,h s,tpl_app h0]
 by_cases h1:tpl l s=0
 ·by_cases h2:t=s
  ·subst h2;simp [h1,hk]
  ·simp [h1,h2,Ne.symm h2]
 ·simp [h1]
theorem KvOk.skip {kv:List (Wd×Value)} {l:List (Wd×Int)} {t:Wd} {k:Int} (h:KvOk kv (tpl l)) (h0:∀ x∈l,x.2≠0) (e:tpl l t≠0):KvOk kv (tpl (l++[(t,k)])):=by
 intro s
 rw [h s,tpl_app h0]
 by_cases h1:tpl l s=0
 ·have h2:t≠s:=fun h2=>e (h2▸h1)
  simp [h1,h2]
 ·simp [h1]
abbrev tk (k:Int) (l:List Wd):List (Wd×Int):=l.map fun s=>(s,k)
abbrev tnm (p:Pg):List Wd:=p.threads.map (·.nm)
def topL (p:Pg):List (Wd×Int):=tk 1 (nmL p.shared)++tk 2 (nmL p.locks)++tk 3 (tnm p)
def topS (p:Pg):Wd→Int:=tpl (topL p)
def locS (t:Th) (s:Wd):Bool:=decide (s∈nmL t.locals)
theorem tk_take {k:Int} {α:Type} {f:α→Wd} {l:List α} {j:Nat} {x:α} (hx:l[j]?=some x):tk k ((l.map f).take (j+1))=tk k ((l.map f).take j)++[(f x,k)]:=by
 have:(l.map f)[j]?=some (f x):=by rw [List.getElem?_map,hx];rfl
 rw [List.take_add_one,this,tk,List.map_append];rfl
theorem cput_any (s:Wd) (k:Int) (hk:k≠0) (mb cb E:Nat) (fz:Nat×Nat) (kvs:List (Wd×Value)) (l:List (Wd×Int)) (h0:∀ x∈l,x.2≠0) (hv:KvOk kvs (tpl l)) (w:World) (hm:w.heap[mb]?=some (mapF kvs)) (hc:w.heap[cb]?=some (.cells [.map (some mb)].toArray E fz)) (hne:mb≠cb) :
    Ret Tryz.prog 105 [str s,.int .i64 k,.pointer (some ⟨cb,0,none⟩)] w fun v w'=>(∃ kv',w'.heap[mb]?=some (mapF kv')∧KvOk kv' (tpl (l++[(s,k)])))∧Chg [mb] w w':=by
 refine ret_of [_,_,_] func105 rfl ntmps105 rfl ?_
 have st:=St.init w []
 obtain⟨w0,rfl⟩:∃ w0,w0=w:=⟨_,rfl⟩
 replace st:=St.of2 [mb] hm hc hne
 obtain⟨z,hz,hz0⟩:∃ z:Int,(getF kvs s).getD (.int .i64 0)=.int .i64 z∧(z=0↔tpl l s=0):=by
  rw [hv s]
  by_cases h:tpl l s=0
  ·exact⟨0,by simp [h],by simp [h]⟩
  ·exact⟨tpl l s,by simp [h],by simp [h]⟩
 refine sr ?_
 refine yl st 1 isAgg128 ?_
 refine ym ?_
 refine vc_e (e_lkF1 (z:=.int .i64 0) st 0 rfl rfl rfl rfl rfl underlying128 underlying9 zeroValue169 ?_)
 rw [hz]
 refine vy (y_eqi rfl rfl) ?_
 refine et (vk4 0 1 2 8 ?_)
 refine vif ?_ ?_
 ·intro hc8
  try simp only [dn] at hc8
  have e0:tpl l s=0:=hz0.1 (by omega)
  have hno:getF kvs s=none:=by rw [hv s,if_pos e0]
  refine vc_region ?_
  refine yl st 1 isAgg128 ?_
  iterate 2 refine ym ?_
  refine vc_e (e_muF st 0 rfl rfl rfl rfl rfl (.inl (.head _)) underlying128 underlying9 hno ?_)
  intro w st;dsimp only [setNth] at st
  refine vc_end ?_
  refine vq_ret0 (.inr rfl) results105 ?_
  refine⟨_,rfl,?_⟩
  exact⟨⟨_,st.res (i:=0) rfl,hv.put h0 hk e0⟩,st.chg⟩
 intro hc8
 try simp only [dn] at hc8
 have e0:tpl l s≠0:=fun e=>by have:=hz0.2 e;omega
 refine vc_code_skip ?_
 refine vq_ret0 (.inr rfl) results105 ?_
 refine⟨_,rfl,?_⟩
 exact⟨⟨_,st.res (i:=0) rfl,hv.skip h0 e0⟩,st.chg⟩
set_option maxHeartbeats 1000000 in
theorem cdeclared_any (p:Pg) (os ol ot:Option Addr) (cs cl ct n0:Nat) (w:World) (hS:DcRow w (·<n0) os p.shared) (hL:DcRow w (·<n0) ol p.locks) (hT:ThRow w (·<n0) ot p.threads) (ls:p.shared.length≤1099511627776) (ll:p.locks.length≤1099511627776) (lt:p.threads.length≤1099511627776) :
    Ret Tryz.prog 44 [.agg [.slice os p.shared.length cs,.slice ol p.locks.length cl,.slice ot p.threads.length ct].toArray] w (fun v w'=>(∃ b kv,v=.map (some b)∧w.heap.size≤b∧w'.heap[b]?=some (mapF kv)∧KvOk kv (topS p))∧Chg [] w w'):=by
 refine ret_of [_] func44 rfl ntmps44 rfl ?_
 have st:=St.init w []
 obtain⟨w0,rfl⟩:∃ w0,w0=w:=⟨_,rfl⟩
 refine sr ?_
 refine vc_e (e_bx (l:=[_,_,_]) st rfl rfl rfl rfl ?_)
 intro b1 w hb1 st
 refine ya ?_
 refine et (vk1 1 (sr ?_))
 refine vc_e (e_mkF st rfl rfl ?_)
 intro b11 w hb11 st
 refine vc_e (e_al (l:=[_]) st rfl rfl zeroValue128 rfl ?_)
 intro b3 w hb3 st
 refine vc_e (est st 0 sizeOf128 ?_)
 intro w st;dsimp only [setNth,wr] at st
 refine et (vk2 1 3 (sr ?_))
 refine vy (y_mf [] [_] rfl rfl) ?_
 refine ya ?_
 refine et (vk3 1 3 4 (vc_seq (sr ?_)))
 refine vy (y_fa0 rfl underlying26 rfl rfl sizeOf23 rfl) ?_
 refine yl st 2 isAgg23 ?_
 refine vy (y_lensl rfl underlying23) ?_
 refine ym ?_
 refine et (vk6 1 3 4 14 15 16 (vc_block ?_))
 refine vc_loop (w0:=w0) (M:=[]) (fun (y:Nat×List (Wd×Value))=>[(1,.pointer (some ⟨b1,0,none⟩)),(3,.pointer (some ⟨b3,0,none⟩)),(4,.func (.func 105) #[] [.pointer (some ⟨b3,0,none⟩)].toArray),(14,.slice os p.shared.length cs),(15,.int .i64 (p.shared.length:Int)),(16,.int .i64 (y.1:Int))]) (fun y=>[.blk b3 (.cells [.map (some b11)].toArray 128 (0,0)),.blk b11 (mapF y.2),.blk b1 (.cells [.slice os p.shared.length cs,.slice ol p.locks.length cl,.slice ot p.threads.length ct].toArray 26 (0,0))]) (fun y w'=>y.1≤p.shared.length∧KvOk y.2 (tpl (tk 1 ((nmL p.shared).take y.1)))) (fun y=>p.shared.length - y.1) (0,[]) ⟨rfl,rfl,rfl,rfl,rfl,rfl,trivial⟩ (st.pick [0,1,2] rfl (by decide)) ⟨by simp,by intro s;simp [tpl,getF]⟩ ?_
 clear st
 rintro ⟨j,kv⟩ w ⟨hj,hv⟩ st
 dsimp only at hj hv st ⊢
 refine sr ?_
 refine vy (y_lss rfl rfl) ?_
 refine et (vk7 1 3 4 14 15 16 17 (vc_seq ?_))
 refine vif ?_ ?_
 ·intro hc17
  try simp only [dn] at hc17
  have stK:=st
  have hj2:j<p.shared.length:=by omega
  obtain⟨x,hx⟩:∃ x,p.shared[j]?=some x:=⟨_,List.getElem?_eq_getElem hj2⟩
  obtain⟨gb,go,rfl,hgS,hgl,hg⟩:=DcRow.at hS (by omega)
  have hc:=hg j x hx
  have st:=stK
  refine kt (vk6 1 3 4 14 15 16 (vc_seq (vc_block (sr ?_))))
  refine vy (y_ia (k:=j) rfl rfl underlying23 sizeOf134 rfl (by omega)) ?_
  refine vy (y_ldca (dcL x) rfl isAgg134 sizeOf134 rfl (fun i v hi=>st.chg.cell (hc i v hi) (by simp))) ?_
  refine vc_e (e_al (l:=[_,_,_]) st rfl rfl zeroValue134 rfl ?_)
  intro b6 w hb6 st
  refine vc_e (ests st 0 [_,_,_] sizeOf134 ?_)
  intro w st;dsimp only [setNth,wr] at st
  refine et (vk7 1 3 4 6 14 15 16 (vc_region ?_))
  refine ym ?_
  refine vy (y_fa0 rfl underlying134 rfl rfl sizeOf9 rfl) ?_
  refine yl st 0 isAgg9 ?_
  refine vc_e (e_callv [_,_] rfl rfl rfl call105 rfl (cput_any x.nm 1 (by decide) b11 b3 128 (0,0) kv (tk 1 ((nmL p.shared).take j)) (by intro x hx;obtain⟨s,-,rfl⟩:=List.mem_map.1 hx;simp) hv _ (st.res (i:=2) rfl) (st.res (i:=1) rfl) (st.bne 2 1 (by decide) rfl rfl)) ?_)
  rintro _ w ⟨⟨kv',hm',hv'⟩,cw⟩
  replace st:=st.swap (i:=2) (r':=.blk b11 (mapF kv')) rfl cw (fun k hk=>hk) (by simpa using hb11) (fun k hk=>.inl hk) hm'
  dsimp only [setNth] at st
  refine vc_end (vq_block (vq_then (vk6 1 3 4 14 15 16 (vc_region ?_))))
  refine vy (y_add rfl rfl (by omega:_=((j+1:Nat):Int)) (by omega) (by omega)) ?_
  refine ym ?_
  refine vc_end ?_
  refine vq_again (j+1,kv')  ⟨rfl,rfl,rfl,rfl,rfl,rfl,trivial⟩ (st.drop (.cons _ (List.Sublist.refl _))) ?_ ?_
  ·refine⟨by dsimp only;omega,?_⟩
   show KvOk kv' (tpl (tk 1 ((nmL p.shared).take (j+1))))
   rw [tk_take hx];exact hv'
  dsimp only;omega
 intro hc17
 try simp only [dn] at hc17
 have hj2:j=p.shared.length:=by omega
 subst hj2
 refine vc_exit (vq_then_exit (vq_then_exit (vq_block_exit (vq_then (vk3 1 3 4 (vc_seq (sr ?_)))))))
 refine yfz 1 underlying26 sizeOf23 ?_
 refine yl st 2 isAgg23 ?_
 refine vy (y_lensl rfl underlying23) ?_
 refine ym ?_
 refine et (vk6 1 3 4 26 27 28 (vc_block ?_))
 refine vc_loop (w0:=w0) (M:=[]) (fun (y:Nat×List (Wd×Value))=>[(1,.pointer (some ⟨b1,0,none⟩)),(3,.pointer (some ⟨b3,0,none⟩)),(4,.func (.func 105) #[] [.pointer (some ⟨b3,0,none⟩)].toArray),(26,.slice ol p.locks.length cl),(27,.int .i64 (p.locks.length:Int)),(28,.int .i64 (y.1:Int))]) (fun y=>[.blk b3 (.cells [.map (some b11)].toArray 128 (0,0)),.blk b11 (mapF y.2),.blk b1 (.cells [.slice os p.shared.length cs,.slice ol p.locks.length cl,.slice ot p.threads.length ct].toArray 26 (0,0))]) (fun y w'=>y.1≤p.locks.length∧KvOk y.2 (tpl (tk 1 (nmL p.shared)++tk 2 ((nmL p.locks).take y.1)))) (fun y=>p.locks.length - y.1) (0,kv) ⟨rfl,rfl,rfl,rfl,rfl,rfl,trivial⟩ st ⟨by simp,by have h:=hv;rw [List.take_of_length_le (by simp)] at h;simpa using h⟩ ?_
 clear st
 rintro ⟨j,kv⟩ w ⟨hj,hv⟩ st
 dsimp only at hj hv st ⊢
 refine sr ?_
 refine vy (y_lss rfl rfl) ?_
 refine et (vk7 1 3 4 26 27 28 29 (vc_seq ?_))
 refine vif ?_ ?_
 ·intro hc29
  try simp only [dn] at hc29
  have stK:=st
  have hj2:j<p.locks.length:=by omega
  obtain⟨x,hx⟩:∃ x,p.locks[j]?=some x:=⟨_,List.getElem?_eq_getElem hj2⟩
  obtain⟨gb,go,rfl,hgS,hgl,hg⟩:=DcRow.at hL (by omega)
  have hc:=hg j x hx
  have st:=stK
  refine kt (vk6 1 3 4 26 27 28 (vc_seq (vc_block (sr ?_))))
  refine vy (y_ia (k:=j) rfl rfl underlying23 sizeOf134 rfl (by omega)) ?_
  refine vy (y_ldca (dcL x) rfl isAgg134 sizeOf134 rfl (fun i v hi=>st.chg.cell (hc i v hi) (by simp))) ?_
  refine vc_e (e_al (l:=[_,_,_]) st rfl rfl zeroValue134 rfl ?_)
  intro b8 w hb8 st
  refine vc_e (ests st 0 [_,_,_] sizeOf134 ?_)
  intro w st;dsimp only [setNth,wr] at st
  refine et (vk7 1 3 4 8 26 27 28 (vc_region ?_))
  refine ym ?_
  refine vy (y_fa0 rfl underlying134 rfl rfl sizeOf9 rfl) ?_
  refine yl st 0 isAgg9 ?_
  refine vc_e (e_callv [_,_] rfl rfl rfl call105 rfl (cput_any x.nm 2 (by decide) b11 b3 128 (0,0) kv (tk 1 (nmL p.shared)++tk 2 ((nmL p.locks).take j)) (by intro x hx;rcases List.mem_append.1 hx with hx|hx <;> (obtain⟨s,-,rfl⟩:=List.mem_map.1 hx;simp)) hv _ (st.res (i:=2) rfl) (st.res (i:=1) rfl) (st.bne 2 1 (by decide) rfl rfl)) ?_)
  rintro _ w ⟨⟨kv',hm',hv'⟩,cw⟩
  replace st:=st.swap (i:=2) (r':=.blk b11 (mapF kv')) rfl cw (fun k hk=>hk) (by simpa using hb11) (fun k hk=>.inl hk) hm'
  dsimp only [setNth] at st
  refine vc_end (vq_block (vq_then (vk6 1 3 4 26 27 28 (vc_region ?_))))
  refine vy (y_add rfl rfl (by omega:_=((j+1:Nat):Int)) (by omega) (by omega)) ?_
  refine ym ?_
  refine vc_end ?_
  refine vq_again (j+1,kv')  ⟨rfl,rfl,rfl,rfl,rfl,rfl,trivial⟩ (st.drop (.cons _ (List.Sublist.refl _))) ?_ ?_
  ·refine⟨by dsimp only;omega,?_⟩
   show KvOk kv' (tpl (tk 1 (nmL p.shared)++tk 2 ((nmL p.locks).take (j+1))))
   rw [tk_take hx,← List.append_assoc];exact hv'
  dsimp only;omega
 intro hc29
 try simp only [dn] at hc29
 have hj2:j=p.locks.length:=by omega
 subst hj2
 refine vc_exit (vq_then_exit (vq_then_exit (vq_block_exit (vq_then (vk3 1 3 4 (vc_seq (sr ?_)))))))
 refine yfz 2 underlying26 sizeOf24 ?_
 refine yl st 2 isAgg24 ?_
 refine vy (y_lensl rfl underlying24) ?_
 refine ym ?_
 refine et (vk5 3 4 38 39 40 (vc_block ?_))
 refine vc_loop (w0:=w0) (M:=[]) (fun (y:Nat×List (Wd×Value))=>[(3,.pointer (some ⟨b3,0,none⟩)),(4,.func (.func 105) #[] [.pointer (some ⟨b3,0,none⟩)].toArray),(38,.slice ot p.threads.length ct),(39,.int .i64 (p.threads.length:Int)),(40,.int .i64 (y.1:Int))]) (fun y=>[.blk b3 (.cells [.map (some b11)].toArray 128 (0,0)),.blk b11 (mapF y.2),.blk b1 (.cells [.slice os p.shared.length cs,.slice ol p.locks.length cl,.slice ot p.threads.length ct].toArray 26 (0,0))]) (fun y w'=>y.1≤p.threads.length∧KvOk y.2 (tpl (tk 1 (nmL p.shared)++tk 2 (nmL p.locks)++tk 3 ((tnm p).take y.1)))) (fun y=>p.threads.length - y.1) (0,kv) ⟨rfl,rfl,rfl,rfl,rfl,trivial⟩ st ⟨by simp,by have h:=hv;rw [List.take_of_length_le (by simp)] at h;simpa using h⟩ ?_
 clear st
 rintro ⟨j,kv⟩ w ⟨hj,hv⟩ st
 dsimp only at hj hv st ⊢
 refine sr ?_
 refine vy (y_lss rfl rfl) ?_
 refine et (vk6 3 4 38 39 40 41 (vc_seq ?_))
 refine vif ?_ ?_
 ·intro hc41
  try simp only [dn] at hc41
  have stK:=st
  have hj2:j<p.threads.length:=by omega
  obtain⟨x,hx⟩:∃ x,p.threads[j]?=some x:=⟨_,List.getElem?_eq_getElem hj2⟩
  obtain⟨gb,go,rfl,hgS,hgl,hg⟩:=ThRow.at hT (by omega)
  obtain⟨tl,tb,tc,td,-,-,hc⟩:=hg j x hx
  have st:=stK
  refine kt (vk5 3 4 38 39 40 (vc_seq (vc_block (sr ?_))))
  refine vy (y_ia (k:=j) rfl rfl underlying24 sizeOf50 rfl (by omega)) ?_
  refine vy (y_ldca (thL x tl tb tc td) rfl isAgg50 sizeOf50 rfl (fun i v hi=>st.chg.cell (hc i v hi) (by simp))) ?_
  refine vc_e (e_al (l:=[_,_,_,_]) st rfl rfl zeroValue50 rfl ?_)
  intro b10 w hb10 st
  refine vc_e (ests st 0 [_,_,_,_] sizeOf50 ?_)
  intro w st;dsimp only [setNth,wr] at st
  refine et (vk6 3 4 10 38 39 40 (vc_region ?_))
  refine ym ?_
  refine vy (y_fa0 rfl underlying50 rfl rfl sizeOf9 rfl) ?_
  refine yl st 0 isAgg9 ?_
  refine vc_e (e_callv [_,_] rfl rfl rfl call105 rfl (cput_any x.nm 3 (by decide) b11 b3 128 (0,0) kv (tk 1 (nmL p.shared)++tk 2 (nmL p.locks)++tk 3 ((tnm p).take j)) (by intro x hx;rcases List.mem_append.1 hx with hx|hx;(rcases List.mem_append.1 hx with hx|hx <;> (obtain⟨s,-,rfl⟩:=List.mem_map.1 hx;simp));(obtain⟨s,-,rfl⟩:=List.mem_map.1 hx;simp)) hv _ (st.res (i:=2) rfl) (st.res (i:=1) rfl) (st.bne 2 1 (by decide) rfl rfl)) ?_)
  rintro _ w ⟨⟨kv',hm',hv'⟩,cw⟩
  replace st:=st.swap (i:=2) (r':=.blk b11 (mapF kv')) rfl cw (fun k hk=>hk) (by simpa using hb11) (fun k hk=>.inl hk) hm'
  dsimp only [setNth] at st
  refine vc_end (vq_block (vq_then (vk5 3 4 38 39 40 (vc_region ?_))))
  refine vy (y_add rfl rfl (by omega:_=((j+1:Nat):Int)) (by omega) (by omega)) ?_
  refine ym ?_
  refine vc_end ?_
  refine vq_again (j+1,kv')  ⟨rfl,rfl,rfl,rfl,rfl,trivial⟩ (st.drop (.cons _ (List.Sublist.refl _))) ?_ ?_
  ·refine⟨by dsimp only;omega,?_⟩
   show KvOk kv' (tpl (tk 1 (nmL p.shared)++tk 2 (nmL p.locks)++tk 3 ((tnm p).take (j+1))))
   rw [tk_take hx,← List.append_assoc];exact hv'
  dsimp only;omega
 intro hc41
 try simp only [dn] at hc41
 have hj2:j=p.threads.length:=by omega
 subst hj2
 refine vc_exit (vq_then_exit (vq_then_exit (vq_block_exit (vq_then (vk1 3 (sr ?_))))))
 refine yl st 0 isAgg128 ?_
 refine ya ?_
 refine et (vk1 2 (vc_ret ?_))
 refine vr1 st results44 ?_
 refine⟨⟨b11,kv,rfl,by simpa using hb11,st.res (i:=1) rfl,?_⟩,st.chg⟩
 rw [List.take_of_length_le (by simp)] at hv
 exact hv
def kv1 (l:List Wd):List (Wd×Value):=l.map fun s=>(s,.int .i64 1)
theorem kv1_app (l:List Wd) (s:Wd):kv1 (l++[s])=kv1 l++[(s,.int .i64 1)]:=by simp [kv1]
theorem getF_kv1 (l:List Wd) (s:Wd):getF (kv1 l) s=if s∈l then some (.int .i64 1) else none:=by
 induction l with
 | nil=>rfl
 | cons x r ih=>
  show getF ((x,_)::kv1 r) s=_
  rw [getF,ih]
  by_cases h:s=x
  ·simp [h]
  ·simp [h]
theorem kv1_get (l:List Wd) (s:Wd):∃ a:Int,(getF (kv1 l) s).getD (.int .i64 0)=.int .i64 a∧0≤a∧a≤1∧(a=0↔s∉l):=by
 rw [getF_kv1]
 by_cases h:s∈l
 ·exact⟨1,by simp [h],by decide,by decide,by simp [h]⟩
 ·exact⟨0,by simp [h],by decide,by decide,by simp [h]⟩
theorem kv1_no {l:List Wd} {s:Wd} (h:s∉l):getF (kv1 l) s=none:=by rw [getF_kv1,if_neg h]
theorem tpl_tk {k:Int} {s:Wd} {m:List (Wd×Int)}:∀ {l:List Wd},tpl (tk k l++m) s=if s∈l then k else tpl m s
 | []=>by simp
 | x::r=>by
  show tpl ((x,k)::(tk k r++m)) s=_
  rw [tpl,tpl_tk]
  by_cases h:x=s
  ·simp [h]
  ·simp [h,Ne.symm h]
theorem topS_eq (p:Pg) (s:Wd):topS p s=if s∈nmL p.shared then 1 else if s∈nmL p.locks then 2 else if s∈tnm p then 3 else 0:=by
 unfold topS topL
 have e:tpl (tk 3 (tnm p)) s=if s∈tnm p then 3 else 0:=by
  have:=tpl_tk (k:=3) (s:=s) (m:=[]) (l:=tnm p)
  rw [List.append_nil] at this
  rw [this];rfl
 rw [List.append_assoc,tpl_tk,tpl_tk,e]
theorem vaV_eq (p:Pg) (t:Th):vaV (topS p) (locS t)=vrN (nmL t.locals) (nmL p.shared):=by
 funext s
 unfold vaV varR vrN
 rw [topS_eq]
 simp only [locS]
 by_cases h1:s∈nmL t.locals
 ·simp [h1]
 ·by_cases h2:s∈nmL p.shared
  ·simp [h1,h2]
  ·by_cases h3:s∈nmL p.locks
   ·simp [h1,h2,h3]
   ·by_cases h4:s∈tnm p <;> simp [h1,h2,h3,h4]
theorem vaW_eq (p:Pg) (t:Th):vaW (topS p) (locS t)=shN (nmL t.locals) (nmL p.shared):=by
 funext s
 unfold vaW varR shN
 rw [topS_eq]
 simp only [locS]
 by_cases h1:s∈nmL t.locals
 ·simp [h1]
 ·by_cases h2:s∈nmL p.shared
  ·simp [h1,h2]
  ·by_cases h3:s∈nmL p.locks
   ·simp [h1,h2,h3]
   ·by_cases h4:s∈tnm p <;> simp [h1,h2,h3,h4]
theorem vaG_eq (p:Pg) (t:Th):vaG (topS p) (locS t)=lkN (nmL t.locals) (nmL p.shared) (nmL p.locks):=by
 funext s
 unfold vaG grdR lkN
 rw [topS_eq]
 simp only [locS]
 by_cases h1:s∈nmL t.locals
 ·simp [h1]
 ·by_cases h2:s∈nmL p.shared
  ·simp [h1,h2]
  ·by_cases h3:s∈nmL p.locks
   ·simp [h1,h2,h3]
   ·by_cases h4:s∈tnm p <;> simp [h1,h2,h3,h4]
def preN (p:Pg) (j:Nat):List Wd:=if j=0 then [] else if j=1 then nmL p.shared else nmL p.shared++nmL p.locks
theorem KvOk.get {kv:List (Wd×Value)} {f:Wd→Int} (h:KvOk kv f) (s:Wd):(getF kv s).getD (.int .i64 0)=.int .i64 (f s):=by
 rw [h s]
 by_cases e:f s=0
 ·simp [e]
 ·simp [e]
theorem nm_take {l:List Dc} {j:Nat} {x:Dc} (hx:l[j]?=some x):(nmL l).take (j+1)=(nmL l).take j++[x.nm]:=by
 have:(nmL l)[j]?=some x.nm:=by rw [List.getElem?_map,hx];rfl
 rw [List.take_add_one,this];rfl
theorem ckDs_step {mx:Nat} {seen:List Wd} {l:List Dc} {j:Nat} {x:Dc} (hx:l[j]?=some x):ckDs mx (seen++(nmL l).take j) (l.drop j) j=(!decide (x.nm∈seen++(nmL l).take j) && decide (j≠mx) && ckDs mx (seen++(nmL l).take (j+1)) (l.drop (j+1)) (j+1)):=by
 obtain⟨hj,e⟩:=List.getElem?_eq_some_iff.1 hx
 rw [List.drop_eq_getElem_cons hj,e,ckDs,nm_take hx,List.append_assoc]
theorem ckDs_nd {mx:Nat}:∀ {l:List Dc} {seen:List Wd} {i:Nat},ckDs mx seen l i=true→seen.Nodup→(seen++nmL l).Nodup
 | [],seen,i,_,h=>by simpa using h
 | x::r,seen,i,h,h0=>by
  rw [ckDs] at h
  simp only [Bool.and_eq_true,Bool.not_eq_true',decide_eq_false_iff_not] at h
  have:=ckDs_nd h.2 (List.nodup_append.2 ⟨h0,by simp,by
    intro a ha b hb e
    rw [List.mem_singleton.1 hb] at e
    exact h.1.1 (e▸ha)⟩)
  rw [List.append_assoc] at this
  exact this
set_option maxHeartbeats 2000000 in
theorem cthread_any (p:Pg) (t:Th) (n0 wb tm:Nat) (os ol oc ob:Option Addr) (cs cl cc cb:Nat) (q2 lv:Value) (kv:List (Wd×Value)) (hkv:KvOk kv (topS p)) (hnd:(nmL p.shared++nmL p.locks).Nodup) (hlo:t.locals.all (dcOk false)=true) (hr:rightSs t.body 1=true) (hok:OkSs t.body)
    (ls:p.shared.length≤1099511627776) (ll:p.locks.length≤1099511627776) (lc:t.locals.length≤1099511627776) (w:World) (hSh:DcRow w (·<n0) os p.shared) (hL:DcRow w (·<n0) ol p.locks) (hC:DcRow w (·<n0) oc t.locals) (hB:SmRow w (·<n0) ob t.body)
  (hw:w.heap[wb]?=some (.cells [.slice os p.shared.length cs,.slice ol p.locks.length cl,q2,.map (some tm),lv].toArray 132 (0,0))) (ht:w.heap[tm]?=some (mapF kv)) (hne:wb≠tm) (hwn:n0≤wb) :
  RetP Tryz.prog 47 [.pointer (some ⟨wb,0,none⟩),.agg (thL t oc ob cc cb).toArray] w (fun v w'=>ckT (nmL p.shared) (nmL p.locks) t=true∧(∃ lv',w'.heap[wb]?=some (.cells [.slice os p.shared.length cs,.slice ol p.locks.length cl,q2,.map (some tm),lv'].toArray 132 (0,0)))∧Chg [wb] w w') (fun v w'=>ckT (nmL p.shared) (nmL p.locks) t=false∧BrkM [wb] w v w'):=by
 refine retp_of [_,_] func47 rfl ntmps47 rfl ?_
 have st:=St.init w []
 obtain⟨w0,rfl⟩:∃ w0,w0=w:=⟨_,rfl⟩
 replace st:=St.of2 [wb] hw ht hne
 refine sr ?_
 refine vc_e (e_bx (l:=[_,_,_,_]) st rfl rfl rfl rfl ?_)
 intro b3 w hb3 st
 refine et (vk2 0 3 (sr ?_))
 refine ym ?_
 refine vc_e (e_mkF st rfl rfl ?_)
 intro b12 w hb12 st
 refine ynk ?_
 refine yfz 4 underlying132 sizeOf130 ?_
 refine vc_e (est st 2 sizeOf130 ?_)
 intro w st;dsimp only [setNth,wr] at st
 refine et (vk2 0 3 (sr ?_))
 refine vc_e (e_mkF st rfl rfl ?_)
 intro b15 w hb15 st
 refine ya ?_
 refine et (vk3 0 3 4 (vc_seq (vc_seq ?_)))
 refine vdr0 Tryz.mixed [Yt 0,Yt 1,Yt 2,Yt 3,Yt 4,Yt 5,Yt 6,Yt 7,Yt 8,Yt 9,Yt 12,Nt 10,Yt 11] st ?_
 clear st;intro w st hS
 refine pm hS ?_
 refine pnk hS ?_
 refine pf0 hS underlying132 sizeOf26 ?_
 refine pf0 hS underlying26 sizeOf23 ?_
 refine pld hS 3 isAgg23 ?_
 refine pm hS ?_
 refine pnk hS ?_
 refine pf0 hS underlying132 sizeOf26 ?_
 refine pfz hS 1 underlying26 sizeOf23 ?_
 refine pld hS 3 isAgg23 ?_
 refine pm hS ?_
 refine vp_do rfl (e_bsn (l:=[.slice os p.shared.length cs,.slice ol p.locks.length cl]) (E:=23) st [(0,_),(1,_)] rfl rfl rfl (fun w=>by simp [Instr.buildSlice,run_underlying underlying171,sizeOf23,zeroValue23,Instr.fill,newRow,newObj,Sem.run,go_sem,Value.cells]) ?_)
 intro b26 w hb26 st
 refine vp_next st.dr ?_;intro hS
 refine vp_take rfl rfl rfl hS (fun w st=>y_lensl rfl underlying171) ?_
 refine vp_end (vq_then (vk6 0 3 4 26 27 28 (vc_block ?_)))
 refine vc_loop (w0:=w0) (M:=[wb]) (fun (j:Nat)=>[(0,.pointer (some ⟨wb,0,none⟩)),(3,.pointer (some ⟨b3,0,none⟩)),(4,.map (some b15)),(26,.slice (some ⟨b26,0,none⟩) 2 2),(27,.int .i64 2),(28,.int .i64 (j:Int))]) (fun j=>[.blk b15 (mapF (kv1 (preN p j))),.blk b26 (.cells [.slice os p.shared.length cs,.slice ol p.locks.length cl].toArray 23 (0,0)),.blk b12 (mapF []),.blk b3 (.cells (thL t oc ob cc cb).toArray 50 (0,0)),.blk wb (.cells [.slice os p.shared.length cs,.slice ol p.locks.length cl,q2,.map (some tm),.map (some b12)].toArray 132 (0,0)),.blk tm (mapF kv)]) (fun j w'=>j≤2) (fun j=>2 - j) 0 ⟨rfl,rfl,rfl,rfl,rfl,rfl,trivial⟩ (st.pick [1,0,2,3,4,5] rfl (by decide)) (by simp) ?_
 clear st
 intro j w hj st
 refine sr ?_
 refine vy (y_lss rfl rfl) ?_
 refine et (vk7 0 3 4 26 27 28 29 (vc_seq ?_))
 refine vif ?_ ?_
 ·intro hc29
  try simp only [dn] at hc29
  obtain⟨D,oj,cj,hlj,hDj,hpe,hlD⟩:∃ (D:List Dc) (oj:Option Addr) (cj:Nat),nth [Value.slice os p.shared.length cs,.slice ol p.locks.length cl] (j*1)=some (.slice oj D.length cj)∧DcRow w0 (·<n0) oj D∧preN p (j+1)=preN p j++nmL D∧D.length≤1099511627776:=by
   rcases (by omega:j=0∨j=1) with rfl|rfl
   ·exact⟨_,_,_,rfl,hSh,rfl,ls⟩
   ·exact⟨_,_,_,rfl,hL,rfl,ll⟩
  have hndj:(preN p j++nmL D).Nodup:=by
   rw [← hpe]
   rcases (by omega:j=0∨j=1) with rfl|rfl
   ·exact(List.nodup_append.1 hnd).1
   ·exact hnd
  refine kt (vk6 0 3 4 26 27 28 (vc_seq (vc_block (sr ?_))))
  refine vy (y_ia0 (k:=j) rfl rfl underlying171 sizeOf23 rfl (by omega)) ?_
  refine vy (y_ld st 1 rfl isAgg23 rfl hlj) ?_
  refine ya ?_
  refine et (vk7 0 3 4 6 26 27 28 (sr ?_))
  refine ym ?_
  refine vy (y_lensl rfl underlying23) ?_
  refine ym ?_
  refine et (vk9 0 3 4 26 27 28 32 33 34 (vc_block ?_))
  refine vc_loop (w0:=w0) (M:=[wb]) (fun (i:Nat)=>[(0,.pointer (some ⟨wb,0,none⟩)),(3,.pointer (some ⟨b3,0,none⟩)),(4,.map (some b15)),(26,.slice (some ⟨b26,0,none⟩) 2 2),(27,.int .i64 2),(28,.int .i64 (j:Int)),(32,.slice oj D.length cj),(33,.int .i64 (D.length:Int)),(34,.int .i64 (i:Int))]) (fun i=>[.blk b15 (mapF (kv1 (preN p j++(nmL D).take i))),.blk b26 (.cells [.slice os p.shared.length cs,.slice ol p.locks.length cl].toArray 23 (0,0)),.blk b12 (mapF []),.blk b3 (.cells (thL t oc ob cc cb).toArray 50 (0,0)),.blk wb (.cells [.slice os p.shared.length cs,.slice ol p.locks.length cl,q2,.map (some tm),.map (some b12)].toArray 132 (0,0)),.blk tm (mapF kv)]) (fun i w'=>i≤D.length) (fun i=>D.length - i) 0 ⟨rfl,rfl,rfl,rfl,rfl,rfl,rfl,rfl,rfl,trivial⟩ (by simpa using st) (by simp) ?_
  clear st
  intro i w hi st
  refine sr ?_
  refine vy (y_lss rfl rfl) ?_
  refine et (vk10 0 3 4 26 27 28 32 33 34 35 (vc_seq ?_))
  refine vif ?_ ?_
  ·intro hc35
   try simp only [dn] at hc35
   have stK:=st
   obtain⟨x,hx⟩:∃ x,D[i]?=some x:=⟨_,List.getElem?_eq_getElem (by omega)⟩
   obtain⟨gb,go,rfl,hgS,hgl,hg⟩:=DcRow.at hDj (by omega)
   have hc:=hg i x hx
   have hnx:x.nm∉preN p j++(nmL D).take i:=by
    have h1:(preN p j++(nmL D).take (i+1)).Nodup:=hndj.sublist ((List.Sublist.refl _).append (List.take_sublist _ _))
    rw [nm_take hx,← List.append_assoc] at h1
    intro hm
    exact(List.nodup_append.1 h1).2.2 _ hm _ (.head _) rfl
   have st:=stK
   refine kt (vk9 0 3 4 26 27 28 32 33 34 (vc_seq (vc_block (sr ?_))))
   refine vy (y_ia (k:=i) rfl rfl underlying23 sizeOf134 rfl (by omega)) ?_
   refine vy ((by exact y_ldca (dcL x) rfl isAgg134 sizeOf134 rfl (fun k v hk=>st.chg.cell (hc k v hk) (by simp;omega)))) ?_
   refine vc_e (e_al (l:=[_,_,_]) st rfl rfl zeroValue134 rfl ?_)
   intro b8 w hb8 st
   refine vc_e (ests st 0 [_,_,_] sizeOf134 ?_)
   intro w st;dsimp only [setNth,wr] at st
   refine et (vk10 0 3 4 8 26 27 28 32 33 34 (vc_region ?_))
   refine ym ?_
   refine vy (y_fa0 rfl underlying134 rfl rfl sizeOf9 rfl) ?_
   refine yl st 0 isAgg9 ?_
   refine vc_e (e_muF st 1 rfl rfl rfl rfl rfl (.inr hb15) underlying130 underlying9 (kv1_no hnx) ?_)
   intro w st;dsimp only [setNth] at st
   refine vc_end (vq_block (vq_then (vk9 0 3 4 26 27 28 32 33 34 (vc_region ?_))))
   refine vy (y_add rfl rfl (by omega:_=((i+1:Nat):Int)) (by omega) (by omega)) ?_
   refine ym ?_
   refine vc_end ?_
   refine vq_again (i+1)  ⟨rfl,rfl,rfl,rfl,rfl,rfl,rfl,rfl,rfl,trivial⟩ (by rw [nm_take hx,← List.append_assoc,kv1_app];exact st.drop (.cons _ (List.Sublist.refl _))) ?_ ?_
   ·omega
   omega
  intro hc35
  try simp only [dn] at hc35
  have hi2:i=D.length:=by omega
  subst hi2
  rw [List.take_of_length_le (by simp),← hpe] at st
  refine vc_exit (vq_then_exit (vq_then_exit (vq_block_exit (vq_block (vq_then (vk6 0 3 4 26 27 28 (vc_region ?_)))))))
  refine vy (y_add rfl rfl (by omega:_=((j+1:Nat):Int)) (by omega) (by omega)) ?_
  refine ym ?_
  refine vc_end ?_
  refine vq_again (j+1)  ⟨rfl,rfl,rfl,rfl,rfl,rfl,trivial⟩ st ?_ ?_
  ·omega
  omega
 intro hc29
 try simp only [dn] at hc29
 have hj2:j=2:=by omega
 subst hj2
 refine vc_exit (vq_then_exit (vq_then_exit (vq_block_exit (vq_then (vk3 0 3 4 (vc_seq (sr ?_)))))))
 refine yfz 1 underlying50 sizeOf23 ?_
 refine yl st 3 isAgg23 ?_
 refine vy (y_lensl rfl underlying23) ?_
 refine ym ?_
 refine et (vk6 0 3 4 44 45 46 (vc_block ?_))
 refine vc_loop (w0:=w0) (M:=[wb]) (fun (i:Nat)=>[(0,.pointer (some ⟨wb,0,none⟩)),(3,.pointer (some ⟨b3,0,none⟩)),(4,.map (some b15)),(44,.slice oc t.locals.length cc),(45,.int .i64 (t.locals.length:Int)),(46,.int .i64 (i:Int))]) (fun i=>[.blk b12 (mapF (kv1 ((nmL t.locals).take i))),.blk b15 (mapF (kv1 (preN p 2))),.blk b3 (.cells (thL t oc ob cc cb).toArray 50 (0,0)),.blk wb (.cells [.slice os p.shared.length cs,.slice ol p.locks.length cl,q2,.map (some tm),.map (some b12)].toArray 132 (0,0)),.blk tm (mapF kv)]) (fun i w'=>i≤t.locals.length∧ckDs 64 (nmL p.shared++nmL p.locks) t.locals 0=ckDs 64 (nmL p.shared++nmL p.locks++(nmL t.locals).take i) (t.locals.drop i) i) (fun i=>t.locals.length - i) 0 ⟨rfl,rfl,rfl,rfl,rfl,rfl,trivial⟩ (st.pick [2,0,3,4,5] rfl (by decide)) ⟨by simp,by simp⟩ ?_
 clear st
 rintro j w ⟨hj,hck⟩ st
 refine sr ?_
 refine vy (y_lss rfl rfl) ?_
 refine et (vk7 0 3 4 44 45 46 47 (vc_seq ?_))
 refine vif ?_ ?_
 ·intro hc47
  try simp only [dn] at hc47
  have stK:=st
  have hj2:j<t.locals.length:=by omega
  obtain⟨x,hx⟩:∃ x,t.locals[j]?=some x:=⟨_,List.getElem?_eq_getElem hj2⟩
  obtain⟨gb,go,rfl,hgS,hgl,hg⟩:=DcRow.at hC (by omega)
  have hc:=hg j x hx
  have hdx:=List.all_eq_true.1 hlo x (List.mem_of_getElem? hx)
  have hdn:isName x.nm=true∧x.wd=0:=by simpa [dcOk] using hdx
  obtain⟨a,ha,ha0,ha1,ha2⟩:=kv1_get ((nmL t.locals).take j) x.nm
  obtain⟨b,hb,hb0,hb1,hb2⟩:=kv1_get (preN p 2) x.nm
  have hcs:=ckDs_step (mx:=64) (seen:=nmL p.shared++nmL p.locks) hx
  have hin:a+b=0↔x.nm∉nmL p.shared++nmL p.locks++(nmL t.locals).take j:=by
   rw [List.mem_append,not_or]
   constructor
   ·intro h;exact⟨hb2.1 (by omega),ha2.1 (by omega)⟩
   ·intro h;have:=hb2.2 h.1;have:=ha2.2 h.2;omega
  have st:=stK
  refine kt (vk6 0 3 4 44 45 46 (vc_seq (vc_block (sr ?_))))
  refine ym ?_
  refine vy (y_ia (k:=j) rfl rfl underlying23 sizeOf134 rfl (by omega)) ?_
  refine vy ((by exact y_ldca (dcL x) rfl isAgg134 sizeOf134 rfl (fun k v hk=>st.chg.cell (hc k v hk) (by simp;omega)))) ?_
  refine vc_e (e_al (l:=[_,_,_]) st rfl rfl zeroValue134 rfl ?_)
  intro b10 w hb10 st
  refine ya ?_
  refine vc_e (ests st 0 [_,_,_] sizeOf134 ?_)
  intro w st;dsimp only [setNth,wr] at st
  refine et (vk8 0 3 4 9 10 44 45 46 (vc_seq ?_))
  refine vdr0 Tryz.mixed [Yt 0,Yt 1,Yt 2,Yt 3,Yt 7,Yt 8,Yt 9,Yt 10,Yt 11,Yt 12,Yt 13,Yt 14,Yt 15,Yt 16,Yt 17,Yt 18,Yt 19,Yt 21,Yt 22,Yt 24,Yt 25,Yt 26,Nt 4,Yt 5,Nt 6,Nt 20,Nt 23,Nt 27,Nt 28,Nt 29] st ?_
  clear st;intro w st hS
  refine pfz hS 2 underlying134 sizeOf3 ?_
  refine pld hS 0 isAgg3 ?_
  refine pf0 hS underlying134 sizeOf9 ?_
  refine pld hS 0 isAgg9 ?_
  refine pm hS ?_
  refine pnk hS ?_
  refine pfz hS 4 underlying132 sizeOf130 ?_
  refine pld hS 4 isAgg130 ?_
  refine pf0 hS underlying134 sizeOf9 ?_
  refine pld hS 0 isAgg9 ?_
  refine vp_take rfl rfl rfl hS (fun w st=>y_lkF1 (z:=.int .i64 0) st 1 rfl rfl rfl underlying130 underlying9 zeroValue3 ha) ?_
  refine pm hS ?_
  refine pf0 hS underlying134 sizeOf9 ?_
  refine pld hS 0 isAgg9 ?_
  refine vp_take rfl rfl rfl hS (fun w st=>y_lkF1 (z:=.int .i64 0) st 2 rfl rfl rfl underlying130 underlying9 zeroValue3 hb) ?_
  refine vp_take rfl rfl rfl hS (fun w st=>y_add rfl rfl rfl (by omega) (by omega)) ?_
  refine vp_take rfl rfl rfl hS (fun w st=>y_gtr rfl rfl) ?_
  refine pm hS ?_
  refine vp_take rfl rfl rfl hS (fun w st=>y_eqi rfl rfl) ?_
  refine pfz hS 1 underlying134 sizeOf2 ?_
  refine pld hS 0 isAgg2 ?_
  refine vp_take rfl rfl rfl hS (fun w st=>y_nei rfl rfl) ?_
  refine vp_do rfl (e_call [_] rfl rfl call27 rfl (name_any _ _) ?_)
  rintro _ _ ⟨rfl,rfl⟩
  refine vp_next (by exact st) ?_;intro hS
  refine vp_take rfl rfl rfl hS (fun w st=>y_not rfl) ?_
  refine vp_do rfl (e_call [_,_] rfl rfl call46 rfl (when_any _ _ _) ?_)
  rintro _ _ ⟨rfl,rfl⟩
  refine vp_next (by exact st) ?_;intro hS
  refine vp_do rfl (e_call [_,_] rfl rfl call46 rfl (when_any _ _ _) ?_)
  rintro _ _ ⟨rfl,rfl⟩
  refine vp_next (by exact st) ?_;intro hS
  refine vp_do rfl (e_call [_,_] rfl rfl call46 rfl (when_any _ _ _) ?_)
  rintro _ _ ⟨rfl,rfl⟩
  refine vp_next (by exact st) ?_;intro hS
  refine vp_do rfl (e_call [_,_] rfl rfl call46 rfl (when_any _ _ _) ?_)
  rintro _ _ ⟨rfl,rfl⟩
  refine vp_next (by exact st) ?_;intro hS
  refine vp_do rfl (e_bsn (l:=[(if (!isName x.nm)=true then 1 else 0),(if decide ((a:Int)+b > 0)=true then 2 else 0),(if decide (((j:Nat):Int)=64)=true then 3 else 0),(if (!decide ((x.wd:Int)=0))=true then 4 else 0)].map iV) (E:=3) st [(0,_),(1,_),(2,_),(3,_)] rfl rfl rfl (fun w=>by simp [Instr.buildSlice,run_underlying underlying44,sizeOf3,zeroValue3,Instr.fill,newRow,newObj,Sem.run,go_sem,Value.cells]) ?_)
  intro b79 w hb79 st
  refine vp_next st.dr ?_;intro hS
  refine vp_do rfl (e_callp [_,_] rfl rfl call45 rfl (breaks_any _ [(if (!isName x.nm)=true then 1 else 0),(if decide ((a:Int)+b > 0)=true then 2 else 0),(if decide (((j:Nat):Int)=64)=true then 3 else 0),(if (!decide ((x.wd:Int)=0))=true then 4 else 0)] (by intro y hy;simp only [List.mem_cons,List.not_mem_nil,or_false] at hy;rcases hy with rfl|rfl|rfl|rfl <;> split <;> decide) b79 _ _ (fun i v hi=>cell_blk (st.res (i:=0) rfl) (by rw [nth_eq];exact hi)) (by simp)) (by rintro _ w' ⟨hno,hv,ch⟩ a ha;exact And.intro ha (Or.inr ⟨_,rfl,(by
      rw [← Bool.not_eq_true]
      intro hT
      unfold ckT at hT
      rw [Bool.and_eq_true,hck,hcs,Bool.and_eq_true,Bool.and_eq_true] at hT
      obtain⟨⟨⟨g1,g2⟩,-⟩,-⟩:=hT
      refine hno ?_
      have g1:=hin.2 (by simpa using g1)
      have g2:=of_decide_eq_true g2
      intro y hy
      simp only [List.mem_cons,List.not_mem_nil,or_false] at hy
      rcases hy with rfl|rfl|rfl|rfl
      · simp [hdn.1]
      · simp [g1]
      · simp;omega
      · simp [hdn.2]),hv,st.chg.trans ch.of_nil⟩)) ?_)
  rintro _ w ⟨hz,cw⟩
  replace st:=st.call0 cw
  have hz:(!decide (x.nm∈nmL p.shared++nmL p.locks++(nmL t.locals).take j))=true∧decide (j≠64)=true:=by
   have h2:=hz _ (.tail _ (.head _))
   have h3:=hz _ (.tail _ (.tail _ (.head _)))
   refine⟨?_,?_⟩
   ·have:a+b=0:=by
     by_cases h:a+b > 0
     ·simp [h] at h2
     ·omega
    simpa using hin.1 this
   ·rw [decide_eq_true_eq]
    intro e
    subst e
    simp at h3
  have hno2:getF (kv1 ((nmL t.locals).take j)) x.nm=none:=kv1_no (ha2.1 (by have:=hin.2 (by simpa using hz.1);omega))
  refine vp_next st.dr ?_;intro hS
  refine vp_end (vq_then (vk7 0 3 4 10 44 45 46 ?_))
  refine vk_draw Tryz.mixed [(0,true),(1,true),(2,true),(4,true),(3,true),(5,true),(6,false)] 6 (fun w=>St _ _ _ w) st (by kernel_rfl) (by repeat (first|exact okQ_noPan|exact okQ_body|exact okQ_bodyS|refine okQ_then ?_|refine okQ_block ?_)) rfl (by kernel_rfl) rfl ?_
  intro w cd;replace st:=st.call0 cd;clear cd
  have hS:=st
  refine km hS ?_
  refine vk_takeU rfl rfl rfl rfl (fun _=>hS) (fun w=>y_nck rfl) ?_
  refine vk_takeU rfl rfl rfl rfl (fun _=>hS) (fun w=>(by exact y_faz (k:=4) rfl underlying132 rfl rfl sizeOf130 rfl)) ?_
  refine vk_takeU rfl rfl rfl rfl (fun _=>hS) (fun w=>y_fa0 rfl underlying134 rfl rfl sizeOf9 rfl) ?_
  refine vk_take rfl rfl rfl rfl hS (fun w st=>y_ld st 5 rfl isAgg130 rfl rfl) ?_
  refine vk_take rfl rfl rfl rfl hS (fun w st=>y_ld st 1 rfl isAgg9 rfl rfl) ?_
  refine vk_do rfl rfl (e_muF st 2 rfl rfl rfl rfl rfl (.inr hb12) underlying130 underlying9 hno2 ?_)
  intro w st;dsimp only [setNth] at st
  refine vk_late ?_
  refine vk_end ?_
  refine vq_block (vq_then (vk6 0 3 4 44 45 46 (vc_region ?_)))
  refine vy (y_add rfl rfl (by omega:_=((j+1:Nat):Int)) (by omega) (by omega)) ?_
  refine ym ?_
  refine vc_end ?_
  refine vq_again (j+1)  ⟨rfl,rfl,rfl,rfl,rfl,rfl,trivial⟩ (by rw [nm_take hx,kv1_app];exact st.drop (.cons _ (.cons _ (List.Sublist.refl _)))) ?_ ?_
  ·refine⟨by omega,?_⟩
   rw [hck,ckDs_step hx,hz.1,hz.2];rfl
  omega
 intro hc47
 try simp only [dn] at hc47
 have hj2:j=t.locals.length:=by omega
 subst hj2
 rw [List.take_of_length_le (by simp),List.drop_length] at hck
 rw [List.take_of_length_le (by simp)] at st
 refine vc_exit (vq_then_exit (vq_then_exit (vq_block_exit (vq_then (vk2 0 3 (vc_region ?_))))))
 have hnd3:[wb,tm,b12].Nodup:=by
  have n1:=st.bne 3 4 (by decide) rfl rfl
  have n2:=st.bne 3 0 (by decide) rfl rfl
  have n3:=st.bne 4 0 (by decide) rfl rfl
  simp only [List.nodup_cons,List.mem_cons,List.not_mem_nil,or_false,not_or,List.nodup_nil,not_false_eq_true,and_true]
  exact⟨⟨n1,n2⟩,n3⟩
 refine ym ?_
 refine yfz 2 underlying50 sizeOf48 ?_
 refine yl st 2 isAgg48 ?_
 refine vc_e (e_callp [_,_,_] rfl rfl call106 rfl (cblock_any (top:=topS p) (loc:=locS t) t.body 1 hr (by decide) (by omega) hok (by decide) ob cb _ (hB.kept (Same.of_chg st.chg (fun k hk hm=>by simp only [List.mem_singleton] at hm;omega))) ⟨st.res (i:=3) rfl,⟨_,st.res (i:=4) rfl,hkv.get⟩,⟨_,st.res (i:=0) rfl,fun s=>by rw [getF_kv1];unfold locS;by_cases h:s∈nmL t.locals <;> simp [h]⟩,hnd3⟩) (by rintro _ w' ⟨hno,hv,ch⟩ a ha;exact And.intro ha (Or.inr ⟨_,rfl,(by rw [vaV_eq,vaW_eq,vaG_eq] at hno;unfold ckT;rw [hno,Bool.and_false]),hv,st.chg.trans ch.of_nil⟩)) ?_)
 rintro _ w ⟨hbd,cw⟩
 replace st:=st.call0 cw
 rw [vaV_eq,vaW_eq,vaG_eq] at hbd
 refine vc_end ?_
 refine vq_ret0 (.inr rfl) results47 ?_
 refine .inl ⟨_,rfl,?_⟩
 refine⟨?_,⟨_,st.res (i:=3) rfl⟩,st.chg⟩
 unfold ckT
 rw [hck,hbd];rfl
end Go.Proofs.YtkhpdpenlnhbiaaGreatDoor
