/- A part of the proof: contracts of functions and plain laws; each theorem says its own conditions. -/
import Derived.Test.YtkhpdpenlnhbiaaGreatDoorTopLoweredK43
import Derived.Test.YtkhpdpenlnhbiaaGreatDoorTopLoweredK42
import Derived.Test.YtkhpdpenlnhbiaaGreatDoorTopLoweredSxZ
set_option linter.unusedVariables false
set_option linter.unusedSimpArgs false
/- How great a tree is that is parsed: no greater than its tokens make it. -/
namespace ParS
open Sx LexS
theorem name_le {l:List UInt8} (h:isName l=true):l.length≤32:=by
  match l,h with
  | c::r,h=>simp only [isName,Bool.and_eq_true,decide_eq_true_eq] at h;exact h.1.1.1
theorem tl {r:List Tok} (h:r≠[]):r.tail.length+1=r.length:=by cases r with|nil=>exact absurd rfl h|cons x l=>simp
def BdE (u:List Tok→PR Ex):Prop:=∀ r x r',TsOk r→u r=.ok (x,r')→szE x+34*r'.length≤34*r.length∧TsOk r'
theorem loopE_bd {u:List Tok→PR Ex} (hu:BdE u):∀ (n:Nat) (lv:Int) (x:Ex) (r:List Tok) (z:Ex) (r':List Tok),TsOk r→loopE u n lv x r=.ok (z,r')→szE z+34*r'.length≤szE x+34*r.length∧TsOk r'
  | 0,lv,x,r,z,r',_,h=>by simp [loopE] at h
  | n+1,lv,x,r,z,r',hr,h=>by
    simp only [loopE] at h
    cases hop:opT (here r) with
    | none=>rw [hop] at h;cases h;exact⟨Nat.le_refl _,hr⟩
    | some op=>
      rw [hop] at h;dsimp only at h
      have hne:=tl (opT_ne hop)
      split at h
      · cases h;exact⟨Nat.le_refl _,hr⟩
      · cases hy:u r.tail with
        | error f=>rw [hy] at h;cases h
        | ok p=>
          obtain⟨y,r1⟩:=p
          rw [hy] at h;dsimp only at h
          obtain⟨a1,k1⟩:=hu _ _ _ hr.tail hy
          cases hz:loopE u n (lvlO (op:Int)+1) y r1 with
          | error f=>rw [hz] at h;cases h
          | ok q=>
            obtain⟨z1,r2⟩:=q
            rw [hz] at h;dsimp only at h
            obtain⟨a2,k2⟩:=loopE_bd hu n _ _ _ _ _ k1 hz
            obtain⟨a3,k3⟩:=loopE_bd hu n _ _ _ _ _ k2 h
            have e:szE (binE op (here r).at_ x z1)=szE x+szE z1+1:=by simp [binE,szE,szEs]
            exact⟨by omega,k3⟩
theorem exprW_bd {u:List Tok→PR Ex} (hg:Goes u) (hu:BdE u):BdE (exprW u):=by
  intro r x r' hr h
  rw [← climbE_expr u hg] at h
  unfold climbE at h
  cases hx:u r with
  | error f=>rw [hx] at h;cases h
  | ok p=>
    obtain⟨y,r1⟩:=p
    rw [hx] at h;dsimp only at h
    obtain⟨a1,k1⟩:=hu _ _ _ hr hx
    obtain⟨a2,k2⟩:=loopE_bd hu _ _ _ _ _ _ k1 h
    exact⟨by omega,k2⟩
theorem leaf_bd (e:Nat):BdE (leafP e):=by
  intro r x r' hr h
  unfold leafP at h
  split at h
  · rename_i hk
    have:=tl (kind_ne hk (by decide))
    cases h
    exact⟨by simp [szE,szEs];omega,hr.tail⟩
  · split at h
    · rename_i hk
      have:=tl (kind_ne hk (by decide))
      have hn:=name_le (hr.here.name hk)
      cases h
      refine⟨?_,hr.tail⟩
      simp only [szE,szEs];omega
    · cases h
theorem unary_bd (e:Nat):∀ m,BdE (unaryP e m)
  | 0=>by
    intro r x r' hr h
    simp only [unaryP] at h
    split at h
    · cases h
    · exact leaf_bd e r x r' hr h
  | m+1=>by
    intro r x r' hr h
    simp only [unaryP] at h
    split at h
    · rename_i hi
      have hne:=tl (inner_ne hi)
      split at h
      · cases hx:exprW (unaryP e m) r.tail with
        | error f=>rw [hx] at h;cases h
        | ok p=>
          obtain⟨y,r1⟩:=p
          rw [hx] at h;dsimp only at h
          obtain⟨a1,k1⟩:=exprW_bd (unary_goes e m) (unary_bd e m) _ _ _ hr.tail hx
          cases hw:want e [41] r1 with
          | error f=>rw [hw] at h;cases h
          | ok r2=>rw [hw] at h;cases h;have:=want_len hw;exact⟨by omega,want_ts k1 hw⟩
      · cases hx:unaryP e m r.tail with
        | error f=>rw [hx] at h;cases h
        | ok p=>
          obtain⟨y,r1⟩:=p
          rw [hx] at h;cases h
          obtain⟨a1,k1⟩:=unary_bd e m _ _ _ hr.tail hx
          exact⟨by simp [szE,szEs];omega,k1⟩
    · exact leaf_bd e r x r' hr h
theorem expr_bd (e m:Nat):BdE (exprP e m):=exprW_bd (unary_goes e m) (unary_bd e m)
section
variable {e:Nat}
theorem name_bd {r r':List Tok} {t:Tok} (hr:TsOk r) (h:nameP e r=.ok (t,r')):t.text.length+34*r'.length+2≤34*r.length∧TsOk r':=by
  unfold nameP at h;split at h
  · rename_i hk
    have:=tl (kind_ne hk (by decide))
    have hn:=name_le (hr.here.name hk)
    cases h;exact⟨by omega,hr.tail⟩
  · cases h
theorem cond_bd {r r':List Tok} {x:Ex} (hr:TsOk r) (h:condP e r=.ok (x,r')):szE x+34*r'.length+34≤34*r.length∧TsOk r':=by
  unfold condP at h
  cases h1:want e [40] r with
  | error f=>rw [h1] at h;cases h
  | ok r1=>
    rw [h1] at h;dsimp only at h
    have l1:=want_len h1
    have k1:=want_ts hr h1
    cases h2:exprP e 64 r1 with
    | error f=>rw [h2] at h;cases h
    | ok p=>
      obtain⟨y,r2⟩:=p
      rw [h2] at h;dsimp only at h
      obtain⟨a2,k2⟩:=expr_bd _ _ _ _ _ k1 h2
      cases h3:want e [41] r2 with
      | error f=>rw [h3] at h;cases h
      | ok r3=>rw [h3] at h;cases h;have:=want_len h3;exact⟨by omega,want_ts k2 h3⟩
theorem semi_bd {r r':List Tok} {x:Ex} (hr:TsOk r) (h:exprSemi e r=.ok (x,r')):szE x+34*r'.length+34≤34*r.length∧TsOk r':=by
  unfold exprSemi at h
  cases h2:exprP e 64 r with
  | error f=>rw [h2] at h;cases h
  | ok p=>
    obtain⟨y,r2⟩:=p
    rw [h2] at h;dsimp only at h
    obtain⟨a2,k2⟩:=expr_bd _ _ _ _ _ hr h2
    cases h3:want e [59] r2 with
    | error f=>rw [h3] at h;cases h
    | ok r3=>rw [h3] at h;cases h;have:=want_len h3;exact⟨by omega,want_ts k2 h3⟩
theorem swap_bd {r r':List Tok} {o:List UInt8} {x:Ex} (hr:TsOk r) (h:swapP e r=.ok ((o,x),r')):o.length+szE x+34*r'.length≤34*r.length∧TsOk r':=by
  rw [← swapQ_eq] at h
  unfold swapQ bnd bndW at h
  cases h1:want e [40] r with
  | error f=>rw [h1] at h;cases h
  | ok r1=>
    rw [h1] at h;dsimp only at h
    have l1:=want_len h1
    have k1:=want_ts hr h1
    cases hn:nameP e r1 with
    | error f=>rw [hn] at h;cases h
    | ok q=>
      obtain⟨t,r2⟩:=q
      rw [hn] at h;dsimp only at h
      obtain⟨a2,k2⟩:=name_bd k1 hn
      cases h3:want e [44] r2 with
      | error f=>rw [h3] at h;cases h
      | ok r3=>
        rw [h3] at h;dsimp only at h
        have l3:=want_len h3
        have k3:=want_ts k2 h3
        cases h4:exprP e 64 r3 with
        | error f=>rw [h4] at h;cases h
        | ok y=>
          obtain⟨y,r4⟩:=y
          rw [h4] at h;dsimp only at h
          obtain⟨a4,k4⟩:=expr_bd _ _ _ _ _ k3 h4
          cases h5:want e [41] r4 with
          | error f=>rw [h5] at h;cases h
          | ok r5=>
            rw [h5] at h;dsimp only at h
            have l5:=want_len h5
            have k5:=want_ts k4 h5
            cases h6:want e [59] r5 with
            | error f=>rw [h6] at h;cases h
            | ok r6=>rw [h6] at h;cases h;have:=want_len h6;exact⟨by omega,want_ts k5 h6⟩
theorem assign_bd {a:Nat} {r r':List Tok} {s:Sm} (hr:TsOk r) (h:assignP e a r=.ok (s,r')):szS s+34*r'.length≤34*r.length∧TsOk r':=by
  rw [← assign_eq] at h
  unfold bnd bndW at h
  cases hn:nameP e r with
  | error f=>rw [hn] at h;cases h
  | ok q=>
    obtain⟨t,r1⟩:=q
    rw [hn] at h;dsimp only at h
    obtain⟨a2,k2⟩:=name_bd hr hn
    cases h3:want e [61] r1 with
    | error f=>rw [h3] at h;cases h
    | ok r3=>
      rw [h3] at h;dsimp only at h
      have l3:=want_len h3
      have k3:=want_ts k2 h3
      unfold sideP bnd at h
      split at h
      · rw [swapQ_eq] at h
        cases h4:swapP e r3.tail with
        | error f=>rw [h4] at h;cases h
        | ok y=>
          obtain⟨⟨o,x⟩,r4⟩:=y
          rw [h4] at h;cases h
          obtain⟨a4,k4⟩:=swap_bd k3.tail h4
          simp only [List.length_tail] at a4
          exact⟨by simp only [szS,szSs,szEs];omega,k4⟩
      · cases h4:exprSemi e r3 with
        | error f=>rw [h4] at h;cases h
        | ok y=>
          obtain⟨x,r4⟩:=y
          rw [h4] at h;cases h
          obtain⟨a4,k4⟩:=semi_bd k3 h4
          exact⟨by simp only [szS,szSs,szEs,List.length_nil];omega,k4⟩
def BdB (bk:List Tok→PR (List Sm)):Prop:=∀ r l r',TsOk r→bk r=.ok (l,r')→szSs l+34*r'.length≤34*r.length∧TsOk r'
theorem stmtW_bd {bk:List Tok→PR (List Sm)} (hb:BdB bk) {r r':List Tok} {s:Sm} (hr:TsOk r) (h:stmtW e bk r=.ok (s,r')):szS s+34*r'.length≤34*r.length∧TsOk r':=by
  rw [stmtW_eq] at h
  have hform:∀ w,formT (here r) w=true→r.tail.length+1=r.length:=fun w hw=>tl (by
    unfold formT at hw
    simp only [Bool.and_eq_true,decide_eq_true_eq] at hw
    exact kind_ne hw.2 (by decide))
  split at h
  · rename_i hw
    have l0:=hform _ hw
    rw [← choice_eq] at h
    unfold bnd at h
    cases h1:condP e r.tail with
    | error f=>rw [h1] at h;cases h
    | ok p=>
      obtain⟨x,r1⟩:=p
      rw [h1] at h;dsimp only at h
      obtain⟨a1,k1⟩:=cond_bd hr.tail h1
      cases h2:bk r1 with
      | error f=>rw [h2] at h;cases h
      | ok q=>
        obtain⟨b,r2⟩:=q
        rw [h2] at h;dsimp only at h
        obtain⟨a2,k2⟩:=hb _ _ _ k1 h2
        unfold elseP bnd at h
        split at h
        · cases h3:bk r2.tail with
          | error f=>rw [h3] at h;cases h
          | ok y=>
            obtain⟨l,r3⟩:=y
            rw [h3] at h;cases h
            obtain⟨a3,k3⟩:=hb _ _ _ k2.tail h3
            simp only [List.length_tail] at a3
            exact⟨by simp only [szS,szEs,List.length_nil];omega,k3⟩
        · cases h
          exact⟨by simp only [szS,szEs,szSs,List.length_nil];omega,k2⟩
  · split at h
    · rename_i hw
      have l0:=hform _ hw
      unfold loopP at h
      cases h1:condP e r.tail with
      | error f=>rw [h1] at h;cases h
      | ok p=>
        obtain⟨x,r1⟩:=p
        rw [h1] at h;dsimp only at h
        obtain⟨a1,k1⟩:=cond_bd hr.tail h1
        cases h2:bk r1 with
        | error f=>rw [h2] at h;cases h
        | ok q=>
          obtain⟨b,r2⟩:=q
          rw [h2] at h;cases h
          obtain⟨a2,k2⟩:=hb _ _ _ k1 h2
          exact⟨by simp only [szS,szEs,szSs,List.length_nil];omega,k2⟩
    · split at h
      · rename_i hw
        have l0:=hform _ hw
        unfold guardP at h
        cases h1:nameP e r.tail with
        | error f=>rw [h1] at h;cases h
        | ok p=>
          obtain⟨t,r1⟩:=p
          rw [h1] at h;dsimp only at h
          obtain⟨a1,k1⟩:=name_bd hr.tail h1
          cases h2:bk r1 with
          | error f=>rw [h2] at h;cases h
          | ok q=>
            obtain⟨b,r2⟩:=q
            rw [h2] at h;cases h
            obtain⟨a2,k2⟩:=hb _ _ _ k1 h2
            exact⟨by simp only [szS,szEs,szSs,List.length_nil];omega,k2⟩
      · split at h
        · rename_i hw
          have l0:=hform _ hw
          unfold printP at h
          cases h2:exprP e 64 r.tail with
          | error f=>rw [h2] at h;cases h
          | ok p=>
            obtain⟨y,r2⟩:=p
            rw [h2] at h;dsimp only at h
            obtain⟨a2,k2⟩:=expr_bd _ _ _ _ _ hr.tail h2
            cases h3:want e [59] r2 with
            | error f=>rw [h3] at h;cases h
            | ok r3=>rw [h3] at h;cases h;have:=want_len h3;exact⟨by simp only [szS,szEs,szSs,List.length_nil];omega,want_ts k2 h3⟩
        · split at h
          · rename_i hw
            have l0:=hform _ hw
            unfold skipP at h
            cases h3:want e [59] r.tail with
            | error f=>rw [h3] at h;cases h
            | ok r3=>rw [h3] at h;cases h;have:=want_len h3;exact⟨by simp only [szS,szEs,szSs,List.length_nil];omega,want_ts hr.tail h3⟩
          · exact assign_bd hr h
theorem restW_bd {st:List Tok→PR Sm} (hs:∀ r s r',TsOk r→st r=.ok (s,r')→szS s+34*r'.length≤34*r.length∧TsOk r'):∀ (k:Nat) (r:List Tok) (l:List Sm) (r':List Tok),TsOk r→restW st k r=.ok (l,r')→szSs l+34*r'.length≤34*r.length∧TsOk r'
  | 0,r,l,r',_,h=>by simp [restW] at h
  | k+1,r,l,r',hr,h=>by
    simp only [restW] at h
    split at h
    · cases h;exact⟨by simp only [szSs,List.length_tail];omega,hr.tail⟩
    · cases h1:st r with
      | error f=>rw [h1] at h;cases h
      | ok p=>
        obtain⟨s,r1⟩:=p
        rw [h1] at h;dsimp only at h
        obtain⟨a1,k1⟩:=hs _ _ _ hr h1
        cases h2:restW st k r1 with
        | error f=>rw [h2] at h;cases h
        | ok q=>
          obtain⟨l2,r2⟩:=q
          rw [h2] at h;cases h
          obtain⟨a2,k2⟩:=restW_bd hs k _ _ _ k1 h2
          exact⟨by simp only [szSs];omega,k2⟩
theorem stmt_bd:∀ (m:Nat) (r:List Tok) (s:Sm) (r':List Tok),TsOk r→stmtP e m r=.ok (s,r')→szS s+34*r'.length≤34*r.length∧TsOk r'
  | 0,r,s,r',hr,h=>by
    rw [stmtP_blk] at h
    refine stmtW_bd (bk:=blkP e 0) (fun r l r' _ h=>?_) hr h
    simp only [blkP] at h
    split at h <;> cases h
  | m+1,r,s,r',hr,h=>by
    rw [stmtP_blk] at h
    refine stmtW_bd (bk:=blkP e (m+1)) (fun r l r' hr h=>?_) hr h
    simp only [blkP] at h
    cases h1:want e [123] r with
    | error f=>rw [h1] at h;cases h
    | ok r1=>
      rw [h1] at h;dsimp only at h
      have:=want_len h1
      obtain⟨a,k⟩:=restW_bd (fun r s r' hr h=>stmt_bd m r s r' hr h) _ _ _ _ (want_ts hr h1) h
      exact⟨by omega,k⟩
theorem decl_bd {r r':List Tok} {x:Dc} (hr:TsOk r) (h:declP e r=.ok (x,r')):x.nm.length+1+34*r'.length≤34*r.length∧TsOk r':=by
  unfold declP at h
  cases hn:nameP e r with
  | error f=>rw [hn] at h;cases h
  | ok p=>
    obtain⟨t,r1⟩:=p
    rw [hn] at h;cases h
    obtain⟨a,k⟩:=name_bd hr hn
    exact⟨by dsimp only;omega,k⟩
theorem init_bd {r r':List Tok} {x:Dc} (hr:TsOk r) (h:initP e r=.ok (x,r')):x.nm.length+1+34*r'.length≤34*r.length∧TsOk r':=by
  have hts:=(init_right hr h).2
  refine⟨?_,hts⟩
  unfold initP at h
  cases hn:nameP e r with
  | error f=>rw [hn] at h;cases h
  | ok p=>
    obtain⟨t,r1⟩:=p
    rw [hn] at h;dsimp only at h
    obtain⟨a,k⟩:=name_bd hr hn
    split at h
    · obtain⟨R,hR⟩:∃ R,R=(if isT [45] r1.tail=true then r1.tail.tail else r1.tail):=⟨_,rfl⟩
      have kR:R.length≤r1.length:=by rw [hR];split <;> simp only [List.length_tail] <;> omega
      rw [← hR] at h
      unfold wordP at h
      split at h
      · cases h
      · rename_i y r2 hw
        split at hw
        · cases hw;cases h
          have:R.tail.length≤R.length:=by simp
          dsimp only;omega
        · cases hw
    · cases h;dsimp only;omega
theorem list_bd {one:List Tok→PR Dc} (ho:∀ r x r',TsOk r→one r=.ok (x,r')→x.nm.length+1+34*r'.length≤34*r.length∧TsOk r'):∀ (n:Nat) (r:List Tok) (l:List Dc) (r':List Tok),TsOk r→listP e one n r=.ok (l,r')→szDs l+34*r'.length≤34*r.length∧TsOk r'
  | 0,r,l,r',_,h=>by simp [listP] at h
  | n+1,r,l,r',hr,h=>by
    simp only [listP] at h
    cases h1:one r with
    | error f=>rw [h1] at h;cases h
    | ok p=>
      obtain⟨x,r1⟩:=p
      rw [h1] at h;dsimp only at h
      obtain⟨a1,k1⟩:=ho _ _ _ hr h1
      split at h
      · cases h2:listP e one n r1.tail with
        | error f=>rw [h2] at h;cases h
        | ok p=>
          obtain⟨l2,r2⟩:=p
          rw [h2] at h;cases h
          obtain⟨a2,k2⟩:=list_bd ho n _ _ _ k1.tail h2
          simp only [List.length_tail] at a2
          exact⟨by simp only [szDs];omega,k2⟩
      · cases h2:want e [59] r1 with
        | error f=>rw [h2] at h;cases h
        | ok r2=>
          rw [h2] at h;cases h
          have:=want_len h2
          exact⟨by simp only [szDs];omega,want_ts k1 h2⟩
theorem szDs_app (a b:List Dc):szDs (a++b)=szDs a+szDs b:=by
  induction a with
  | nil=>simp [szDs]
  | cons x a ih=>simp only [List.cons_append,szDs,ih];omega
theorem locals_bd:∀ (n:Nat) (r:List Tok) (l:List Dc) (r':List Tok),TsOk r→localsP e n r=.ok (l,r')→szDs l+34*r'.length≤34*r.length∧TsOk r'
  | 0,r,l,r',_,h=>by simp [localsP] at h
  | n+1,r,l,r',hr,h=>by
    simp only [localsP] at h
    split at h
    · cases hq:listP e (declP e) (r.length+1) r.tail with
      | error f=>rw [hq] at h;cases h
      | ok q=>
        obtain⟨l1,r1⟩:=q
        rw [hq] at h;dsimp only at h
        obtain⟨a1,k1⟩:=list_bd (fun _ _ _ h1 h2=>decl_bd h1 h2) _ _ _ _ hr.tail hq
        simp only [List.length_tail] at a1
        cases hz:localsP e n r1 with
        | error f=>rw [hz] at h;cases h
        | ok z=>
          obtain⟨l2,r2⟩:=z
          rw [hz] at h;cases h
          obtain⟨a2,k2⟩:=locals_bd n _ _ _ k1 hz
          exact⟨by rw [szDs_app];omega,k2⟩
    · cases h;exact⟨by simp [szDs],hr⟩
theorem thread_bd {r r':List Tok} {t:Th} (hr:TsOk r) (h:threadP e r=.ok (t,r')):t.nm.length+szDs t.locals+szSs t.body+1+34*r'.length≤34*r.length∧TsOk r':=by
  rw [← thread_eq] at h
  unfold bnd bndW at h
  cases hn:nameP e r with
  | error f=>rw [hn] at h;cases h
  | ok p=>
    obtain⟨n,r0⟩:=p
    rw [hn] at h;dsimp only at h
    obtain⟨a1,k1⟩:=name_bd hr hn
    cases hw:want e [123] r0 with
    | error f=>rw [hw] at h;cases h
    | ok r1=>
      rw [hw] at h;dsimp only at h
      have l2:=want_len hw
      cases hl:localsP e (r1.length+1) r1 with
      | error f=>rw [hl] at h;cases h
      | ok q=>
        obtain⟨l,r2⟩:=q
        rw [hl] at h;dsimp only at h
        obtain⟨a3,k3⟩:=locals_bd _ _ _ _ (want_ts k1 hw) hl
        cases hb:restP e 63 r2 with
        | error f=>rw [hb] at h;cases h
        | ok z=>
          obtain⟨b,r3⟩:=z
          rw [hb] at h;cases h
          obtain⟨a4,k4⟩:=restW_bd (fun r s r' hr h=>stmt_bd 63 r s r' hr h) _ _ _ _ k3 hb
          exact⟨by dsimp only;omega,k4⟩
theorem threads_bd:∀ (n:Nat) (r:List Tok) (l:List Th) (r':List Tok),TsOk r→threadsP e n r=.ok (l,r')→szTs l+34*r'.length≤34*r.length∧TsOk r'
  | 0,r,l,r',_,h=>by simp [threadsP] at h
  | n+1,r,l,r',hr,h=>by
    simp only [threadsP] at h
    split at h
    · cases h1:threadP e r.tail with
      | error f=>rw [h1] at h;cases h
      | ok p=>
        obtain⟨t,r1⟩:=p
        rw [h1] at h;dsimp only at h
        obtain⟨a1,k1⟩:=thread_bd hr.tail h1
        simp only [List.length_tail] at a1
        cases h2:threadsP e n r1 with
        | error f=>rw [h2] at h;cases h
        | ok p=>
          obtain⟨l2,r2⟩:=p
          rw [h2] at h;cases h
          obtain⟨a2,k2⟩:=threads_bd n _ _ _ k1 h2
          exact⟨by simp only [szTs];omega,k2⟩
    · cases h;exact⟨by simp [szTs],hr⟩
theorem prog_bd:∀ (n:Nat) (r:List Tok) (p:Pg),TsOk r→progP e n r=.ok p→szP p≤34*r.length
  | 0,r,p,_,h=>by simp [progP] at h
  | n+1,r,p,hr,h=>by
    simp only [progP] at h
    split at h
    · cases h1:listP e (initP e) (r.length+1) r.tail with
      | error f=>rw [h1] at h;cases h
      | ok q=>
        obtain⟨l,r1⟩:=q
        rw [h1] at h;dsimp only at h
        obtain⟨a1,k1⟩:=list_bd (fun _ _ _ h1 h2=>init_bd h1 h2) _ _ _ _ hr.tail h1
        simp only [List.length_tail] at a1
        cases h2:progP e n r1 with
        | error f=>rw [h2] at h;cases h
        | ok p2=>
          rw [h2] at h;cases h
          have:=prog_bd n _ _ k1 h2
          simp only [szP,szDs_app] at this ⊢;omega
    · split at h
      · cases h1:listP e (declP e) (r.length+1) r.tail with
        | error f=>rw [h1] at h;cases h
        | ok q=>
          obtain⟨l,r1⟩:=q
          rw [h1] at h;dsimp only at h
          obtain⟨a1,k1⟩:=list_bd (fun _ _ _ h1 h2=>decl_bd h1 h2) _ _ _ _ hr.tail h1
          simp only [List.length_tail] at a1
          cases h2:progP e n r1 with
          | error f=>rw [h2] at h;cases h
          | ok p2=>
            rw [h2] at h;cases h
            have:=prog_bd n _ _ k1 h2
            simp only [szP,szDs_app] at this ⊢;omega
      · cases h1:threadsP e (r.length+1) r with
        | error f=>rw [h1] at h;cases h
        | ok q=>
          obtain⟨l,r1⟩:=q
          rw [h1] at h;dsimp only at h
          obtain⟨a1,k1⟩:=threads_bd _ _ _ _ hr h1
          split at h
          · cases h;simp only [szP,szDs];omega
          · cases h
end
theorem parse_bd {s:List UInt8} {p:Pg} {e a b:Nat} (h:parseRes s=(p,e,a,b)):szP p≤2228224:=by
  unfold parseRes at h
  split at h
  · cases h;decide
  · rename_i hs
    split at h
    · cases h;decide
    · have hts:=front_ts (s:=s) (by omega)
      obtain⟨hl,-⟩:=front_ok (s:=s) (T:=(front s).1) (f:=(front s).2) rfl
      split at h
      · cases h;decide
      · rename_i q hq
        cases h
        have:=prog_bd _ _ _ hts hq
        omega
end ParS
namespace Go.Proofs.YtkhpdpenlnhbiaaGreatDoor
open Go.RowKit Sx LexS ParS _root_.Go.Proofs.Tryz
theorem idx_in {l:List Dc} {nm:Wd} (h:nm∈nmL l):0≤idxI l nm∧idxI l nm<l.length:=by
 unfold idxI
 cases hi:idxO l nm with
 | none=>
  unfold idxO at hi
  rw [List.findIdx?_eq_none_iff] at hi
  obtain⟨d,hd,e⟩:=List.mem_map.1 h
  have:=hi d hd
  simp [e] at this
 | some k=>exact⟨by simp,by have:=idxO_lt hi;simp;omega⟩
theorem idx_no {l:List Dc} {nm:Wd}:idxO l nm=none↔nm∉nmL l:=by
 constructor
 ·intro h hm
  have:=(idx_in hm).1
  unfold idxI at this
  rw [h] at this
  simp at this
 ·intro h
  unfold idxO
  rw [List.findIdx?_eq_none_iff]
  intro d hd
  simp only [decide_eq_false_iff_not]
  exact fun e=>h (List.mem_map.2 ⟨d,hd,e⟩)
section
variable {p:Pg} {t:Th}
theorem vOk:VOk t.locals p.shared p.shared.length (vrN (nmL t.locals) (nmL p.shared)):=by
 intro nm h hi
 have h1:=idx_no.1 hi
 unfold vrN at h
 simp only [Bool.or_eq_true,decide_eq_true_eq] at h
 exact idx_in (h.resolve_left h1)
theorem wOk:WOk p.shared p.shared.length (shN (nmL t.locals) (nmL p.shared)):=by
 intro nm h
 unfold shN at h
 simp only [Bool.and_eq_true,decide_eq_true_eq] at h
 exact idx_in h.2
theorem gOk:WOk p.locks p.locks.length (lkN (nmL t.locals) (nmL p.shared) (nmL p.locks)):=by
 intro nm h
 unfold lkN at h
 simp only [Bool.and_eq_true,decide_eq_true_eq] at h
 exact idx_in h.2
theorem wNo:WNo t.locals (shN (nmL t.locals) (nmL p.shared)):=by
 intro nm h
 unfold shN at h
 simp only [Bool.and_eq_true,Bool.not_eq_true',decide_eq_false_iff_not] at h
 exact idx_no.2 h.1
theorem rd_rel {N:List Gn} {τ:Int}:ParS.Rd (N.map ParS.kt) τ↔∃ g∈N,relW false g=true∧g.th=τ:=by
 unfold ParS.Rd relW
 simp only [List.mem_map,ParS.kt,Prod.mk.injEq]
 constructor
 ·rintro (⟨g,hg,h1,h2⟩|⟨g,hg,h1,h2⟩)
  ·exact⟨g,hg,by simp [h1],h2⟩
  ·exact⟨g,hg,by simp [h1],h2⟩
 ·rintro ⟨g,hg,h1,h2⟩
  simp only [Bool.not_false,Bool.and_true,Bool.and_false,Bool.or_false,Bool.or_eq_true,decide_eq_true_eq] at h1
  rcases h1 with h1|h1
  ·exact .inr ⟨g,hg,h1,h2⟩
  ·exact .inl ⟨g,hg,h1,h2⟩
theorem wr_rel {N:List Gn} {τ:Int}:ParS.Wr (N.map ParS.kt) τ↔∃ g∈N,relW true g=true∧g.th=τ:=by
 unfold ParS.Wr relW
 simp only [List.mem_map,ParS.kt,Prod.mk.injEq]
 constructor
 ·rintro (⟨g,hg,h1,h2⟩|⟨g,hg,h1,h2⟩)
  ·exact⟨g,hg,by simp [h1],h2⟩
  ·exact⟨g,hg,by simp [h1],h2⟩
 ·rintro ⟨g,hg,h1,h2⟩
  simp only [Bool.not_true,Bool.and_true,Bool.and_false,Bool.or_false,Bool.or_eq_true,decide_eq_true_eq] at h1
  rcases h1 with h1|h1
  ·exact .inr ⟨g,hg,h1,h2⟩
  ·exact .inl ⟨g,hg,h1,h2⟩
theorem rel_th {nS nL s:Nat} {b:Bool} {g:Gn} (h:okG nS nL s g) (hr:relW b g=true):0≤g.th∧g.th<nS:=by
 unfold relW at hr
 simp only [Bool.or_eq_true,Bool.and_eq_true,decide_eq_true_eq] at hr
 rcases h with ⟨e,-⟩|⟨e,-,-,h,-⟩|⟨e,-,-,h,-⟩|⟨e,-,-,h,-⟩|⟨e|e,-⟩|⟨e|e,-⟩|⟨e,-⟩
 ·omega
 ·exact h
 ·exact h
 ·exact h
 ·omega
 ·omega
 ·omega
 ·omega
 ·omega
theorem ix_tch {names:List Wd} {k:Nat}:k∈ixs (mkT p t names) 0↔k<p.shared.length∧Tch t.locals p.shared names (k:Int):=by
 rw [ixs_mem]
 constructor
 ·rintro ⟨j,hj,h⟩
  obtain rfl:k=j:=by omega
  rcases (mkBs_get names _ k).1 h with h|h
  ·rw [List.getElem?_replicate] at h
   split at h <;> simp at h
  ·simpa using h
 ·intro h
  exact⟨k,by omega,(mkBs_get names _ k).2 (.inr (by simpa using h))⟩
theorem ix_len (names:List Wd):(ixs (mkT p t names) 0).length≤p.shared.length:=by
 have:=ixs_len (mkT p t names) 0
 rw [mkBs_len,List.length_replicate] at this
 exact this
theorem touch_ok {N:List Gn} {s:Nat} (hr:rightSs t.body 1=true) (hc:ckT (nmL p.shared) (nmL p.locks) t=true) (h:grT p t=some (N,s)) :
    ((∀ g∈N,relW false g=true→∃ k∈ixs (mkT p t (rdSs t.body)) 0,g.th=((k:Nat):Int))∧∀ k∈ixs (mkT p t (rdSs t.body)) 0,∃ g∈N,relW false g=true∧g.th=((k:Nat):Int))∧
  ((∀ g∈N,relW true g=true→∃ k∈ixs (mkT p t (wrSs t.body)) 0,g.th=((k:Nat):Int))∧∀ k∈ixs (mkT p t (wrSs t.body)) 0,∃ g∈N,relW true g=true∧g.th=((k:Nat):Int)):=by
 unfold ckT at hc
 rw [Bool.and_eq_true] at hc
 obtain⟨⟨lab,hG⟩,hk⟩:=gr_ok vOk wOk gOk hr hc.2 h
 have hT:=fun τ=>kSs_tch (sh:=p.shared) (lk:=p.locks) wNo τ t.body 1 hr hc.2
 have hR:∀ τ,ParS.Rd (N.map ParS.kt) τ↔Tch t.locals p.shared (rdSs t.body) τ:=fun τ=>by
  rw [hk,ParS.Rd.app,(hT τ).1]
  exact⟨fun h=>h.resolve_right (rd_lit (by decide) (by decide)),.inl⟩
 have hW:∀ τ,ParS.Wr (N.map ParS.kt) τ↔Tch t.locals p.shared (wrSs t.body) τ:=fun τ=>by
  rw [hk,ParS.Wr.app,(hT τ).2]
  exact⟨fun h=>h.resolve_right (wr_lit (by decide) (by decide)),.inl⟩
 refine⟨⟨fun g hg hrel=>?_,fun k hk=>?_⟩,⟨fun g hg hrel=>?_,fun k hk=>?_⟩⟩
 ·obtain⟨h1,h2⟩:=rel_th (hG.ok g hg) hrel
  have e:g.th=((g.th.toNat:Nat):Int):=(Int.toNat_of_nonneg h1).symm
  exact⟨g.th.toNat,ix_tch.2 ⟨by omega,by rw [← e];exact(hR _).1 (rd_rel.2 ⟨g,hg,hrel,rfl⟩)⟩,e⟩
 ·exact rd_rel.1 ((hR _).2 (ix_tch.1 hk).2)
 ·obtain⟨h1,h2⟩:=rel_th (hG.ok g hg) hrel
  have e:g.th=((g.th.toNat:Nat):Int):=(Int.toNat_of_nonneg h1).symm
  exact⟨g.th.toNat,ix_tch.2 ⟨by omega,by rw [← e];exact(hW _).1 (wr_rel.2 ⟨g,hg,hrel,rfl⟩)⟩,e⟩
 exact wr_rel.1 ((hW _).2 (ix_tch.1 hk).2)
end
theorem grs_get {p:Pg} {D:List Dg} (hD:GrsOf p p.threads D) {j:Nat} {d:Dg} (hd:D[j]?=some d):∃ t,p.threads[j]?=some t∧d.nm=t.nm∧d.lc=t.locals.length∧grT p t=some (d.N,d.s):=by
 have hj:=(List.getElem?_eq_some_iff.1 hd).1
 rw [hD.1] at hj
 have ht:=List.getElem?_eq_getElem hj
 obtain⟨d',h1,h2⟩:=hD.2 j _ ht
 rw [hd] at h1
 cases h1
 exact⟨_,ht,h2⟩
theorem unOk {p:Pg} {D:List Dg} (hpg:pgOk p=true) (hck:ckP p=true) (hD:GrsOf p p.threads D):UnOk p D:=by
 obtain⟨⟨hp1,hp2⟩,hp3⟩:(p.shared.all (dcOk true)=true∧p.locks.all (dcOk false)=true)∧p.threads.all thOk=true:=by simpa [pgOk] using hpg
 rw [ckP_eq,Bool.and_eq_true,Bool.and_eq_true] at hck
 obtain⟨⟨c1,c2⟩,c3⟩:=hck
 have l1:=ckDs_len c1 (by omega)
 have l2:=ckDs_len c2 (by omega)
 have l3:=ckTs_len c3 (by omega)
 have hnd:=ckTs_nd c3 (by simpa using ckDs_nd c2 (by simpa using ckDs_nd c1 List.nodup_nil))
 have hnm:D.map (·.nm)=p.threads.map (·.nm):=by
  apply List.ext_getElem?
  intro j
  rw [List.getElem?_map,List.getElem?_map]
  cases h:D[j]? with
  | none=>
   rw [List.getElem?_eq_none_iff,hD.1] at h
   rw [List.getElem?_eq_none h]
   rfl
  | some d=>
   obtain⟨t,h1,h2,-⟩:=grs_get hD h
   rw [h1]
   simp [h2]
 have hg:∀ d∈D,∃ t∈p.threads,d.nm=t.nm∧d.lc=t.locals.length∧grT p t=some (d.N,d.s):=fun d hd=>by
  obtain⟨j,hj⟩:=List.mem_iff_getElem?.1 hd
  obtain⟨t,h1,h2⟩:=grs_get hD hj
  exact⟨t,List.mem_of_getElem? h1,h2⟩
 refine⟨by omega,by omega,by rw [hD.1];omega,by rw [hnm];exact hnd,fun d hd=>?_,fun d hd=>?_,fun d hd=>?_,fun d hd=>?_,fun d hd=>?_⟩
 ·have:=List.all_eq_true.1 hp1 d hd
  simp only [dcOk,Bool.and_eq_true] at this
  exact this.1
 ·have:=List.all_eq_true.1 hp2 d hd
  simpa [dcOk] using this
 ·obtain⟨t,ht,h1,-⟩:=hg d hd
  rw [h1]
  exact thOk_name (List.all_eq_true.1 hp3 t ht)
 ·obtain⟨t,ht,-,h2,-⟩:=hg d hd
  have h:=ckTs_get c3 t ht
  unfold ckT at h
  rw [Bool.and_eq_true] at h
  have:=ckDs_len h.1 (by omega)
  omega
 obtain⟨t,ht,-,h2,h3⟩:=hg d hd
 have h:=ckTs_get c3 t ht
 unfold ckT at h
 rw [Bool.and_eq_true] at h
 rw [h2]
 exact(gr_ok vOk wOk gOk (thOk_body (List.all_eq_true.1 hp3 t ht)) h.2 h3).1
theorem std_ne {p:Pg} {old:Wd} (hpg:pgOk p=true) (h:stdP p old=true):old≠[]:=by
 obtain⟨⟨hp1,hp2⟩,hp3⟩:(p.shared.all (dcOk true)=true∧p.locks.all (dcOk false)=true)∧p.threads.all thOk=true:=by simpa [pgOk] using hpg
 have key:∀ (b:Bool) (l:List Dc),l.all (dcOk b)=true→idxI l []≥0→False:=fun b l hl hi=>by
  obtain⟨k,h1,-⟩:=idxI_some hi
  have hm:([]:Wd)∈nmL l:=Decidable.byContradiction fun hn=>by rw [idx_no.2 hn] at h1;cases h1
  obtain⟨d,hd,e⟩:=List.mem_map.1 hm
  have:=List.all_eq_true.1 hl d hd
  simp only [dcOk,Bool.and_eq_true] at this
  rw [e] at this
  exact absurd this.1 (by decide)
 rintro rfl
 unfold stdP at h
 simp only [Bool.or_eq_true,decide_eq_true_eq,List.any_eq_true] at h
 rcases h with (h|h)|⟨t,ht,h⟩
 ·exact key true _ hp1 h
 ·exact key false _ hp2 h
 ·have h3:=List.all_eq_true.1 hp3 t ht
  unfold stdT at h
  simp only [Bool.or_eq_true,decide_eq_true_eq] at h
  rcases h with h|h
  ·have:=thOk_name h3
   rw [h] at this
   exact absurd this (by decide)
  ·exact key false _ (thOk_lo h3) h
theorem ren_ok {p:Pg} {old new:Wd} (hpg:pgOk p=true) (hok:OkP p) (hsz:szP p≤2228224) (h1:isName new=true) (h2:stdP p old=true):pgOk (trP (rnF old new) idA p)=true∧OkP (trP (rnF old new) idA p)∧szP (trP (rnF old new) idA p)≤300000000:=by
 have h0:=std_ne hpg h2
 refine⟨pgOk_ren (by unfold rnF;rw [if_neg (fun e=>h0 e.symm)]) hpg (fun s hs hn=>rn_ok h1 hn),okP_tr (fun a h=>h) hok,?_⟩
 have:=szP_tr (g:=rnF old new) (h:=idA) (fun s=>by
   unfold rnF
   have:=name_le h1
   split <;> omega) p
 omega
theorem ren_gr {p:Pg} {old new:Wd} (hn:NoP new p) (hck:ckP p=true) {t:Th} (ht:t∈p.threads):grT (trP (rnF old new) idA p) (trT (rnF old new) idA t)=grT p t:=by
 rw [ckP_eq,Bool.and_eq_true,Bool.and_eq_true] at hck
 exact grT_ren hn (hn.th t ht).2 (ckTs_get hck.2 t ht)
theorem row_blocks {w:World} {T:Nat→Prop} {sz n:Nat} {oa:Option Addr} {f:Nat→List Value} (h:RowC w T sz oa n f):∃ B:List Nat,(∀ b∈B,T b∧b<w.heap.size)∧RowC w (·∈B) sz oa n f:=by
 rcases h with h|⟨b,off,h1,h2,h3,h4⟩
 ·exact⟨[],by simp,.inl h⟩
 ·exact⟨[b],fun x hx=>by simp only [List.mem_singleton] at hx;subst hx;exact⟨h2,h3⟩,.inr ⟨b,off,h1,.head _,h3,h4⟩⟩
theorem nds_blocks {w:World} {T:Nat→Prop}:∀ (D:List Dg),(∀ d∈D,NdRow w T d.on d.N)→∃ B:List Nat,(∀ b∈B,T b∧b<w.heap.size)∧∀ d∈D,NdRow w (·∈B) d.on d.N
 | [],_=>⟨[],by simp,by simp⟩
 | d::r,h=>by
  obtain⟨B1,h1,h2⟩:=row_blocks (h d (.head _))
  obtain⟨B2,h3,h4⟩:=nds_blocks r fun x hx=>h x (.tail _ hx)
  refine⟨B1++B2,fun b hb=>?_,fun x hx=>?_⟩
  ·rcases List.mem_append.1 hb with hb|hb
   ·exact h1 b hb
   ·exact h3 b hb
  ·rcases List.mem_cons.1 hx with rfl|hx
   ·exact RowC.mono h2 fun b hb=>List.mem_append.2 (.inl hb)
   ·exact RowC.mono (h4 x hx) fun b hb=>List.mem_append.2 (.inr hb)
def UnW (p:Pg) (D:List Dg) (o1 o2 og:Option Addr) (B:List Nat) (w:World):Prop:=DcRow w (·∈B) o1 p.shared∧DcRow w (·∈B) o2 p.locks∧GrRow w (·∈B) og D
theorem un_blocks {w:World} {T:Nat→Prop} {p:Pg} {D:List Dg} {uv:Value} (h:UnV w T p D uv):∃ o1 c1 o2 c2 og cg B,uv=.agg [.slice o1 p.shared.length c1,.slice o2 p.locks.length c2,.slice og D.length cg].toArray∧(∀ b∈B,T b∧b<w.heap.size)∧UnW p D o1 o2 og B w:=by
 obtain⟨o1,c1,o2,c2,og,cg,rfl,h1,h2,h3⟩:=h
 obtain⟨B1,a1,r1⟩:=row_blocks h1
 obtain⟨B2,a2,r2⟩:=row_blocks h2
 obtain⟨B3,a3,r3⟩:=row_blocks h3.1
 obtain⟨B4,a4,r4⟩:=nds_blocks D h3.2
 refine⟨o1,c1,o2,c2,og,cg,B1++(B2++(B3++B4)),rfl,fun b hb=>?_,RowC.mono r1 fun b hb=>List.mem_append.2 (.inl hb),RowC.mono r2 fun b hb=>List.mem_append.2 (.inr (List.mem_append.2 (.inl hb))),RowC.mono r3 fun b hb=>List.mem_append.2 (.inr (List.mem_append.2 (.inr (List.mem_append.2 (.inl hb))))),fun d hd=>RowC.mono (r4 d hd) fun b hb=>List.mem_append.2 (.inr (List.mem_append.2 (.inr (List.mem_append.2 (.inr hb)))))⟩
 rcases List.mem_append.1 hb with hb|hb
 ·exact a1 b hb
 ·rcases List.mem_append.1 hb with hb|hb
  ·exact a2 b hb
  ·rcases List.mem_append.1 hb with hb|hb
   ·exact a3 b hb
   ·exact a4 b hb
theorem UnW.kept {p:Pg} {D:List Dg} {o1 o2 og:Option Addr} {B:List Nat} {w w':World} (h:UnW p D o1 o2 og B w) (hs:w.heap.size≤w'.heap.size) (hk:∀ b∈B,w'.heap[b]?=w.heap[b]?):UnW p D o1 o2 og B w':=
 have s:Same (·∈B) w w':=⟨hs,fun b hb _=>hk b hb⟩
 ⟨RowC.kept h.1 s,RowC.kept h.2.1 s,h.2.2.kept s⟩
theorem un_holds {p:Pg} {D:List Dg} {o1 o2 og:Option Addr} {B:List Nat} {w:World} {base:Nat} (h:UnW p D o1 o2 og B w) (hl:∀ b∈B,b<w.heap.size):(Res.tree B (UnW p D o1 o2 og B)).holds base w:=
 ⟨h,hl,fun a b hs hk hp=>hp.kept hs hk⟩
theorem UnW.v {p:Pg} {D:List Dg} {o1 o2 og:Option Addr} {B:List Nat} {w:World} (h:UnW p D o1 o2 og B w) (c1 c2 cg:Nat):UnV w (·∈B) p D (.agg [.slice o1 p.shared.length c1,.slice o2 p.locks.length c2,.slice og D.length cg].toArray):=⟨o1,c1,o2,c2,og,cg,rfl,h⟩
theorem pg_rows {w:World} {p:Pg} {os ol ot:Option Addr} {cs cl ct:Nat} {B:List Nat} (h:PgQ w p [.slice os p.shared.length cs,.slice ol p.locks.length cl,.slice ot p.threads.length ct] B):DcRow w (·<w.heap.size) os p.shared∧DcRow w (·<w.heap.size) ol p.locks∧ThRow w (·<w.heap.size) ot p.threads:=by
 obtain⟨os',cs',ol',cl',ot',ct',e,h1,h2,h3⟩:=PgS.toV h (T:=(·<w.heap.size)) (fun b hb=>PgS.lt h b hb)
 simp only [List.cons.injEq,Value.slice.injEq,and_true,true_and] at e
 obtain⟨⟨rfl,-⟩,⟨rfl,-⟩,rfl,-⟩:=e
 exact⟨h1,h2,h3⟩
def TwoR (l m:List Nat) (o1 o2:Option Addr) (c1 c2:Nat) (w:World):Prop:=w.ownsRow 0 3 1 (.slice o1 l.length c1) l.length (nV l)∧w.ownsRow 0 3 1 (.slice o2 m.length c2) m.length (nV m)
theorem two_holds {l m:List Nat} {o1 o2:Option Addr} {c1 c2 base base':Nat} {w:World} (h1:w.ownsRow base' 3 1 (.slice o1 l.length c1) l.length (nV l)) (h2:w.ownsRow base' 3 1 (.slice o2 m.length c2) m.length (nV m)):(Res.tree (obk o1++obk o2) (TwoR l m o1 o2 c1 c2)).holds base w:=
 ⟨⟨ownsRow_base h1 (Nat.zero_le _),ownsRow_base h2 (Nat.zero_le _)⟩,fun b hb=>by
   rcases List.mem_append.1 hb with hb|hb
   · exact(owns_lt h1 b hb).2
   · exact(owns_lt h2 b hb).2,fun a b _ hk hp=>⟨owns_kept hp.1 fun x hx=>hk x (List.mem_append.2 (.inl hx)),owns_kept hp.2 fun x hx=>hk x (List.mem_append.2 (.inr hx))⟩⟩
theorem two_fresh {l m:List Nat} {o1 o2:Option Addr} {c1 c2 base:Nat} {w:World} (h1:w.ownsRow base 3 1 (.slice o1 l.length c1) l.length (nV l)) (h2:w.ownsRow base 3 1 (.slice o2 m.length c2) m.length (nV m)):∀ b∈obk o1++obk o2,base≤b:=fun b hb=>by
 rcases List.mem_append.1 hb with hb|hb
 ·exact(owns_lt h1 b hb).1
 ·exact(owns_lt h2 b hb).1
end Go.Proofs.YtkhpdpenlnhbiaaGreatDoor
