/- A part of the proof: contracts of functions and plain laws; each theorem says its own conditions. -/
import Derived.Test.YtkhpdpenlnhbiaaGreatDoorTopLoweredK19
import Derived.Test.YtkhpdpenlnhbiaaGreatDoorTopLoweredK18
import Derived.Test.YtkhpdpenlnhbiaaGreatDoorTopLoweredK12
set_option linter.unusedVariables false
set_option linter.unusedSimpArgs false
/- What is parsed may be written: expressions. -/
namespace ParS
open Sx LexS
structure TkOk (t:Tok):Prop where
  name:t.kind=1→isName t.text=true
  word:t.word≤9223372036854775807
  at_:t.at_≤1048576
def TsOk (ts:List Tok):Prop:=(∀ t∈ts,TkOk t)∧ts.length≤1048576
theorem TsOk.tail {ts:List Tok} (h:TsOk ts):TsOk ts.tail:=⟨fun t ht=>h.1 t (List.mem_of_mem_tail ht),by rw [List.length_tail];have:=h.2;omega⟩
theorem TsOk.here {ts:List Tok} (h:TsOk ts):TkOk (ParS.here ts):=by
  cases ts with
  | nil=>exact⟨fun h=>(by cases h),by simp [ParS.here,tok0],by simp [ParS.here,tok0]⟩
  | cons x l=>exact h.1 x (.head _)
theorem i64_nat {n:Nat} (h:n≤9223372036854775807):i64 (n:Int):=⟨by omega,by omega⟩
theorem i64_neg {n:Nat} (h:n≤9223372036854775807):i64 (-(n:Int)):=⟨by omega,by omega⟩
theorem TkOk.ati {t:Tok} (h:TkOk t):i64 (t.at_:Int):=i64_nat (by have:=h.at_;omega)
theorem rightE_mono:∀ (n:Nat) (x:Ex),SizeOf.sizeOf x=n→∀ d d',rightE x d=true→d'≤d→rightE x d'=true:=by
  intro n
  refine Nat.strongRecOn n fun n ih=>?_
  intro x hn d d' hr hd
  obtain⟨hle,hcase⟩:=rightE_iff.1 hr
  refine rightE_iff.2 ⟨by omega,?_⟩
  have hkid:∀ y,y∈x.kids→∀ a b,rightE y a=true→b≤a→rightE y b=true:=fun y hy a b h1 h2=>ih _ (by have:=memE_lt hy;omega) y rfl a b h1 h2
  rcases hcase with h|h|h|h
  · exact .inl h
  · exact .inr (.inl h)
  · obtain⟨h1,h2,h3,h4,y,hy,hry⟩:=h
    refine .inr (.inr (.inl ⟨h1,h2,h3,h4,y,hy,hkid y (by rw [hy];exact .head _) _ _ hry ?_⟩))
    split <;> omega
  · obtain⟨h1,h2,h3,h4,y,z,hyz,hry,hrz⟩:=h
    refine .inr (.inr (.inr ⟨h1,h2,h3,h4,y,z,hyz,hkid y (by rw [hyz];exact .head _) _ _ hry ?_,hkid z (by rw [hyz];exact .tail _ (.head _)) _ _ hrz ?_⟩))
    · split <;> omega
    · split <;> omega
theorem right_le {x:Ex} {d d':Nat} (h:rightE x d=true) (hd:d'≤d):rightE x d'=true:=rightE_mono _ x rfl d d' h hd
structure Prt (x:Ex) (d:Nat):Prop where
  ok:OkE x
  r:rightE x d=true
  par:x.k=4→rightE x (d+1)=true
def Reads (u:List Tok→PR Ex) (d:Nat):Prop:=∀ r x r',TsOk r→u r=.ok (x,r')→Prt x d∧TsOk r'
theorem findO_two {s:List UInt8} {op:Nat} (h:findO s=some op):twoOp (op:Int)=true:=by
  unfold findO at h
  have h1:=List.find?_some h
  simp only [Bool.and_eq_true] at h1
  exact h1.1
theorem opT_two {t:Tok} {op:Nat} (h:opT t=some op):twoOp (op:Int)=true:=by
  unfold opT at h;split at h
  · exact findO_two h
  · cases h
theorem okE_bin {op:Nat} {a:Nat} {x y:Ex} (hop:twoOp (op:Int)=true) (ha:i64 (a:Int)) (hx:OkE x) (hy:OkE y):OkE (binE op a x y):=by
  simp only [twoOp,decide_eq_true_eq] at hop
  refine .mk ⟨by decide,by decide⟩ ⟨by omega,by omega⟩ ⟨by decide,by decide⟩ ha (by simp) ?_
  intro j z hz
  match j,hz with
  | 0,hz=>simp at hz;subst hz;exact hx
  | 1,hz=>simp at hz;subst hz;exact hy
  | j+2,hz=>simp at hz
theorem loopE_right {u:List Tok→PR Ex} {d:Nat} (hd:d≤64) (hu:Reads u d):∀ (n:Nat) (lv:Int) (x:Ex) (r:List Tok) (z:Ex) (r':List Tok),TsOk r→loopE u n lv x r=.ok (z,r')→
    OkE x→rightE x d=true→(x.k=4→rightE x (d+1)=true∨lv≤lvlO x.op)→(x.k=4→rightE x (d+1)=true∨∀ o,opT (here r)=some o→lvlO (o:Int)≤lvlO x.op)→
    OkE z∧rightE z d=true∧(z.k=4→rightE z (d+1)=true∨lv≤lvlO z.op)∧(∀ o,opT (here r')=some o→lvlO (o:Int)<lv)∧TsOk r'
  | 0,lv,x,r,z,r',_,h,_,_,_,_=>by simp [loopE] at h
  | n+1,lv,x,r,z,r',hr,h,h1,h2,h3,h4=>by
    simp only [loopE] at h
    cases hop:opT (here r) with
    | none=>
      rw [hop] at h;cases h
      exact⟨h1,h2,h3,fun o ho=>(by rw [hop] at ho;cases ho),hr⟩
    | some op=>
      rw [hop] at h
      simp only at h
      split at h
      · rename_i hlt
        cases h
        exact⟨h1,h2,h3,fun o ho=>(by rw [hop] at ho;cases ho;exact hlt),hr⟩
      · rename_i hge
        cases hy:u r.tail with
        | error f=>rw [hy] at h;cases h
        | ok p=>
          obtain⟨y,r1⟩:=p
          rw [hy] at h
          simp only at h
          obtain⟨py,hr1⟩:=hu _ _ _ hr.tail hy
          cases hz:loopE u n (lvlO (op:Int)+1) y r1 with
          | error f=>rw [hz] at h;cases h
          | ok q=>
            obtain⟨z1,r2⟩:=q
            rw [hz] at h
            simp only at h
            obtain⟨a1,a2,a3,a4,a5⟩:=loopE_right hd hu n _ _ _ _ _ hr1 hz py.ok py.r (fun k=>.inl (py.par k)) (fun k=>.inl (py.par k))
            have htwo:=opT_two hop
            have hleft:rightE x (if inn (op:Int) x false=true then d+1 else d)=true:=by
              split
              · rename_i hin
                unfold inn at hin
                simp only [Bool.and_eq_true,decide_eq_true_eq,Bool.false_and,Bool.or_false] at hin
                rcases h4 hin.1 with k|k
                · exact k
                · have:=k op hop;omega
              · exact h2
            have hright:rightE z1 (if inn (op:Int) z1 true=true then d+1 else d)=true:=by
              split
              · rename_i hin
                unfold inn at hin
                simp only [Bool.and_eq_true,decide_eq_true_eq,Bool.true_and,Bool.or_eq_true] at hin
                rcases a3 hin.1 with k|k
                · exact k
                · rcases hin.2 with k2|k2 <;> omega
              · exact a2
            have hb:rightE (binE op (here r).at_ x z1) d=true:=rightE_iff.2 ⟨hd,.inr (.inr (.inr ⟨rfl,htwo,rfl,rfl,x,z1,rfl,hleft,hright⟩))⟩
            exact loopE_right hd hu n lv _ r2 z r' a5 h (okE_bin htwo hr.here.ati h1 a1) hb (fun _=>.inr (by show lv≤lvlO (op:Int);omega)) (fun _=>.inr fun o ho=>by have:=a4 o ho;show lvlO (o:Int)≤lvlO (op:Int);omega)
theorem exprW_right {u:List Tok→PR Ex} {d:Nat} (hd:d≤64) (hg:Goes u) (hu:Reads u d) {r r':List Tok} {x:Ex} (hr:TsOk r) (h:exprW u r=.ok (x,r')):OkE x∧rightE x d=true∧TsOk r':=by
  rw [← climbE_expr u hg] at h
  unfold climbE at h
  cases hx:u r with
  | error f=>rw [hx] at h;cases h
  | ok p=>
    obtain⟨y,r1⟩:=p
    rw [hx] at h
    simp only at h
    obtain⟨py,hr1⟩:=hu _ _ _ hr hx
    obtain⟨a1,a2,a3,a4,a5⟩:=loopE_right hd hu _ _ _ _ _ _ hr1 h py.ok py.r (fun k=>.inl (py.par k)) (fun k=>.inl (py.par k))
    exact⟨a1,a2,a5⟩
theorem leaf_right (e:Nat) {d:Nat} (hd:d≤64):Reads (leafP e) d:=by
  intro r x r' hr h
  unfold leafP at h
  have hh:=hr.here
  split at h
  · cases h
    refine⟨⟨.mk ⟨by decide,by decide⟩ ⟨by decide,by decide⟩ (i64_nat hh.word) hh.ati (by simp) (fun j z hz=>by simp at hz),rightE_iff.2 ⟨hd,.inl ⟨rfl,by simp [Ex.wd],rfl,rfl,rfl⟩⟩,fun k=>by simp [Ex.k] at k⟩,hr.tail⟩
  · split at h
    · rename_i hk
      cases h
      refine⟨⟨.mk ⟨by decide,by decide⟩ ⟨by decide,by decide⟩ ⟨by decide,by decide⟩ hh.ati (by simp) (fun j z hz=>by simp at hz),rightE_iff.2 ⟨hd,.inr (.inl ⟨rfl,hh.name hk,rfl,rfl,rfl⟩)⟩,fun k=>by simp [Ex.k] at k⟩,hr.tail⟩
    · cases h
theorem unary_right (e:Nat):∀ (m d:Nat),d+m=64→Reads (unaryP e m) d
  | 0,d,hd=>by
    intro r x r' hr h
    simp only [unaryP] at h
    split at h
    · cases h
    · exact leaf_right e (by omega) r x r' hr h
  | m+1,d,hd=>by
    intro r x r' hr h
    simp only [unaryP] at h
    have ih:=unary_right e m (d+1) (by omega)
    split at h
    · split at h
      · cases hx:exprW (unaryP e m) r.tail with
        | error f=>rw [hx] at h;cases h
        | ok p=>
          obtain⟨y,r1⟩:=p
          rw [hx] at h
          simp only at h
          obtain⟨a1,a2,a3⟩:=exprW_right (by omega) (unary_goes e m) ih hr.tail hx
          cases hw:want e [41] r1 with
          | error f=>rw [hw] at h;cases h
          | ok r2=>
            rw [hw] at h
            cases h
            obtain⟨_,rfl⟩:=want_ok hw
            exact⟨⟨a1,right_le a2 (by omega),fun _=>a2⟩,a3.tail⟩
      · cases hx:unaryP e m r.tail with
        | error f=>rw [hx] at h;cases h
        | ok p=>
          obtain⟨y,r1⟩:=p
          rw [hx] at h
          cases h
          obtain⟨py,hr1⟩:=ih _ _ _ hr.tail hx
          have hop:oneOp (if (here r).text=[33] then 18 else 17)=true:=by split <;> decide
          refine⟨⟨.mk ⟨by decide,by decide⟩ (by split <;> exact⟨by decide,by decide⟩) ⟨by decide,by decide⟩ hr.here.ati (by simp) (fun j z hz=>?_),rightE_iff.2 ⟨by omega,.inr (.inr (.inl ⟨rfl,hop,rfl,rfl,y,rfl,?_⟩))⟩,fun k=>by simp [Ex.k] at k⟩,hr1⟩
          · match j,hz with
            | 0,hz=>simp at hz;subst hz;exact py.ok
            | j+1,hz=>simp at hz
          · split
            · rename_i hk;exact py.par hk
            · exact py.r
    · exact leaf_right e (by omega) r x r' hr h
theorem expr_right {e:Nat} {r r':List Tok} {x:Ex} (hr:TsOk r) (h:exprP e 64 r=.ok (x,r')):OkE x∧rightE x 0=true∧TsOk r':=exprW_right (by omega) (unary_goes e 64) (unary_right e 64 0 rfl) hr h
end ParS
/- What is parsed may be written: statements,programs. -/
namespace ParS
open Sx LexS
def SReads (st:List Tok→PR Sm) (d:Nat):Prop:=∀ r s r',TsOk r→st r=.ok (s,r')→OkS s∧rightS s d=true∧TsOk r'
def BReads (bk:List Tok→PR (List Sm)) (d:Nat):Prop:=∀ r l r',TsOk r→bk r=.ok (l,r')→OkSs l∧(d<64∧rightSs l (d+1)=true)∧TsOk r'
section
variable {e:Nat} (he:e≤1048576)
theorem want_ts {s:List UInt8} {r r':List Tok} (hr:TsOk r) (h:want e s r=.ok r'):TsOk r':=by obtain⟨_,rfl⟩:=want_ok h;exact hr.tail
theorem name_ts {r r':List Tok} {t:Tok} (hr:TsOk r) (h:nameP e r=.ok (t,r')):isName t.text=true∧i64 (t.at_:Int)∧TsOk r':=by
  unfold nameP at h;split at h
  · rename_i hk;cases h;exact⟨hr.here.name hk,hr.here.ati,hr.tail⟩
  · cases h
include he in
theorem atT_i64 {r:List Tok} (hr:TsOk r):i64 (atT e r:Int):=by
  cases r with
  | nil=>exact i64_nat (by show e≤_;omega)
  | cons t l=>exact TkOk.ati (hr.1 t (.head _))
theorem cond_ts {r r':List Tok} {x:Ex} (hr:TsOk r) (h:condP e r=.ok (x,r')):OkE x∧rightE x 0=true∧TsOk r':=by
  unfold condP at h
  cases h1:want e [40] r with
  | error f=>rw [h1] at h;cases h
  | ok r1=>
    rw [h1] at h;simp only at h
    have k1:=want_ts hr h1
    cases h2:exprP e 64 r1 with
    | error f=>rw [h2] at h;cases h
    | ok p=>
      obtain⟨y,r2⟩:=p
      rw [h2] at h;simp only at h
      obtain⟨a1,a2,k2⟩:=expr_right k1 h2
      cases h3:want e [41] r2 with
      | error f=>rw [h3] at h;cases h
      | ok r3=>rw [h3] at h;cases h;exact⟨a1,a2,want_ts k2 h3⟩
theorem semi_ts {r r':List Tok} {x:Ex} (hr:TsOk r) (h:exprSemi e r=.ok (x,r')):OkE x∧rightE x 0=true∧TsOk r':=by
  unfold exprSemi at h
  cases h2:exprP e 64 r with
  | error f=>rw [h2] at h;cases h
  | ok p=>
    obtain⟨y,r2⟩:=p
    rw [h2] at h;simp only at h
    obtain⟨a1,a2,k2⟩:=expr_right hr h2
    cases h3:want e [59] r2 with
    | error f=>rw [h3] at h;cases h
    | ok r3=>rw [h3] at h;cases h;exact⟨a1,a2,want_ts k2 h3⟩
theorem swap_ts {r r':List Tok} {o:List UInt8} {x:Ex} (hr:TsOk r) (h:swapP e r=.ok ((o,x),r')):isName o=true∧OkE x∧rightE x 0=true∧TsOk r':=by
  unfold swapP at h
  cases h1:want e [40] r with
  | error f=>rw [h1] at h;cases h
  | ok r1=>
    rw [h1] at h;simp only at h
    have k1:=want_ts hr h1
    cases hn:nameP e r1 with
    | error f=>rw [hn] at h;cases h
    | ok p=>
      obtain⟨t,r2⟩:=p
      rw [hn] at h;simp only at h
      obtain⟨n1,_,k2⟩:=name_ts k1 hn
      cases h3:want e [44] r2 with
      | error f=>rw [h3] at h;cases h
      | ok r3=>
        rw [h3] at h;simp only at h
        have k3:=want_ts k2 h3
        cases h4:exprP e 64 r3 with
        | error f=>rw [h4] at h;cases h
        | ok p=>
          obtain⟨y,r4⟩:=p
          rw [h4] at h;simp only at h
          obtain⟨a1,a2,k4⟩:=expr_right k3 h4
          cases h5:want e [41] r4 with
          | error f=>rw [h5] at h;cases h
          | ok r5=>
            rw [h5] at h;simp only at h
            have k5:=want_ts k4 h5
            cases h6:want e [59] r5 with
            | error f=>rw [h6] at h;cases h
            | ok r6=>rw [h6] at h;cases h;exact⟨n1,a1,a2,want_ts k5 h6⟩
theorem okEs_one {x:Ex} (h:OkE x):OkEs [x]:=⟨by simp,fun j y hy=>by
  match j,hy with
  | 0,hy=>simp at hy;subst hy;exact h
  | j+1,hy=>simp at hy⟩
theorem okSs_nil:OkSs []:=⟨by simp,fun j y hy=>by simp at hy⟩
theorem okEs_nil:OkEs []:=⟨by simp,fun j y hy=>by simp at hy⟩
theorem okS_mk {k:Int} {nm other:List UInt8} {es:List Ex} {body els:List Sm} {a:Int} (hk:u8 k) (ha:i64 a) (h1:OkEs es) (h2:OkSs body) (h3:OkSs els):OkS (.mk k nm other es body els a):=.mk hk ha h1 h2.1 h2.2 h3.1 h3.2
include he in
theorem assign_ts {r r0 r':List Tok} {s:Sm} {d:Nat} (hr0:TsOk r0) (hr:TsOk r) (h:assignP e (atT e r0) r=.ok (s,r')):OkS s∧rightS s d=true∧TsOk r':=by
  have ha:=atT_i64 he hr0
  unfold assignP at h
  cases hn:nameP e r with
  | error f=>rw [hn] at h;cases h
  | ok p=>
    obtain⟨t,r1⟩:=p
    rw [hn] at h;simp only at h
    obtain⟨n1,_,k1⟩:=name_ts hr hn
    cases h2:want e [61] r1 with
    | error f=>rw [h2] at h;cases h
    | ok r2=>
      rw [h2] at h;simp only at h
      have k2:=want_ts k1 h2
      split at h
      · cases h3:swapP e r2.tail with
        | error f=>rw [h3] at h;cases h
        | ok p=>
          obtain⟨⟨o,x⟩,r3⟩:=p
          rw [h3] at h;simp only at h
          cases h
          obtain⟨n2,a1,a2,k3⟩:=swap_ts k2.tail h3
          refine⟨okS_mk ⟨by decide,by decide⟩ ha (okEs_one a1) okSs_nil okSs_nil,?_,k3⟩
          rw [rightS];simp [hasN,hasE,hasB,nmOk,rightX,rightSs,n1,n2,a2]
      · cases h3:exprSemi e r2 with
        | error f=>rw [h3] at h;cases h
        | ok p=>
          obtain⟨x,r3⟩:=p
          rw [h3] at h;simp only at h
          cases h
          obtain⟨a1,a2,k3⟩:=semi_ts k2 h3
          refine⟨okS_mk ⟨by decide,by decide⟩ ha (okEs_one a1) okSs_nil okSs_nil,?_,k3⟩
          rw [rightS];simp [hasN,hasE,hasB,nmOk,rightX,rightSs,n1,a2]
include he in
theorem stmtW_right {bk:List Tok→PR (List Sm)} {d:Nat} (hb:BReads bk d):SReads (stmtW e bk) d:=by
  intro r s r' hr h
  have ha:=atT_i64 he hr
  unfold stmtW at h
  split at h
  · cases h1:condP e r.tail with
    | error f=>rw [h1] at h;cases h
    | ok p=>
      obtain⟨x,r1⟩:=p
      rw [h1] at h;simp only at h
      obtain⟨a1,a2,k1⟩:=cond_ts hr.tail h1
      cases h2:bk r1 with
      | error f=>rw [h2] at h;cases h
      | ok p=>
        obtain⟨b,r2⟩:=p
        rw [h2] at h;simp only at h
        obtain⟨b1,b2,k2⟩:=hb _ _ _ k1 h2
        split at h
        · cases h3:bk r2.tail with
          | error f=>rw [h3] at h;cases h
          | ok p=>
            obtain⟨l,r3⟩:=p
            rw [h3] at h;simp only at h
            cases h
            obtain⟨c1,c2,k3⟩:=hb _ _ _ k2.tail h3
            refine⟨okS_mk ⟨by decide,by decide⟩ ha (okEs_one a1) b1 c1,?_,k3⟩
            rw [rightS];simp [hasN,hasE,hasB,nmOk,rightX,a2,b2.1,b2.2,c2.2]
        · cases h
          refine⟨okS_mk ⟨by decide,by decide⟩ ha (okEs_one a1) b1 okSs_nil,?_,k2⟩
          rw [rightS];simp [hasN,hasE,hasB,nmOk,rightX,rightSs,a2,b2.1,b2.2]
  · split at h
    · cases h1:condP e r.tail with
      | error f=>rw [h1] at h;cases h
      | ok p=>
        obtain⟨x,r1⟩:=p
        rw [h1] at h;simp only at h
        obtain⟨a1,a2,k1⟩:=cond_ts hr.tail h1
        cases h2:bk r1 with
        | error f=>rw [h2] at h;cases h
        | ok p=>
          obtain⟨b,r2⟩:=p
          rw [h2] at h;simp only at h
          cases h
          obtain⟨b1,b2,k2⟩:=hb _ _ _ k1 h2
          refine⟨okS_mk ⟨by decide,by decide⟩ ha (okEs_one a1) b1 okSs_nil,?_,k2⟩
          rw [rightS];simp [hasN,hasE,hasB,nmOk,rightX,rightSs,a2,b2.1,b2.2]
    · split at h
      · cases h1:nameP e r.tail with
        | error f=>rw [h1] at h;cases h
        | ok p=>
          obtain⟨t,r1⟩:=p
          rw [h1] at h;simp only at h
          obtain⟨n1,_,k1⟩:=name_ts hr.tail h1
          cases h2:bk r1 with
          | error f=>rw [h2] at h;cases h
          | ok p=>
            obtain⟨b,r2⟩:=p
            rw [h2] at h;simp only at h
            cases h
            obtain⟨b1,b2,k2⟩:=hb _ _ _ k1 h2
            refine⟨okS_mk ⟨by decide,by decide⟩ ha okEs_nil b1 okSs_nil,?_,k2⟩
            rw [rightS];simp [hasN,hasE,hasB,nmOk,rightX,rightSs,n1,b2.1,b2.2]
      · split at h
        · cases h1:exprSemi e r.tail with
          | error f=>rw [h1] at h;cases h
          | ok p=>
            obtain⟨x,r1⟩:=p
            rw [h1] at h;simp only at h
            cases h
            obtain⟨a1,a2,k1⟩:=semi_ts hr.tail h1
            refine⟨okS_mk ⟨by decide,by decide⟩ ha (okEs_one a1) okSs_nil okSs_nil,?_,k1⟩
            rw [rightS];simp [hasN,hasE,hasB,nmOk,rightX,rightSs,a2]
        · split at h
          · cases h1:want e [59] r.tail with
            | error f=>rw [h1] at h;cases h
            | ok r1=>
              rw [h1] at h;simp only at h
              cases h
              refine⟨okS_mk ⟨by decide,by decide⟩ ha okEs_nil okSs_nil okSs_nil,?_,want_ts hr.tail h1⟩
              rw [rightS];simp [hasN,hasE,hasB,nmOk,rightX,rightSs]
          · exact assign_ts he hr hr h
theorem restW_right {st:List Tok→PR Sm} {d:Nat} (hs:SReads st d):∀ (n:Nat) (r:List Tok) (l:List Sm) (r':List Tok),TsOk r→restW st n r=.ok (l,r')→(l.length<n∧∀ x∈l,OkS x)∧rightSs l d=true∧TsOk r'
  | 0,r,l,r',_,h=>by simp [restW] at h
  | n+1,r,l,r',hr,h=>by
    simp only [restW] at h
    split at h
    · cases h;exact⟨⟨by simp,by simp⟩,rfl,hr.tail⟩
    · cases h1:st r with
      | error f=>rw [h1] at h;cases h
      | ok p=>
        obtain⟨s,r1⟩:=p
        rw [h1] at h;simp only at h
        obtain⟨a1,a2,k1⟩:=hs _ _ _ hr h1
        cases h2:restW st n r1 with
        | error f=>rw [h2] at h;cases h
        | ok p=>
          obtain⟨l2,r2⟩:=p
          rw [h2] at h;simp only at h
          cases h
          obtain⟨⟨b1,b2⟩,b3,k2⟩:=restW_right hs n r1 l2 _ k1 h2
          refine⟨⟨by simp;omega,fun x hx=>?_⟩,by rw [rightSs,a2,b3];rfl,k2⟩
          rcases List.mem_cons.1 hx with rfl|hx
          · exact a1
          · exact b2 x hx
theorem okSs_of {l:List Sm} (h:l.length≤1099511627776) (hx:∀ x∈l,OkS x):OkSs l:=⟨h,fun j x hj=>hx x (List.mem_of_getElem? hj)⟩
include he in
theorem stmt_right:∀ (m d:Nat),d+m=64→SReads (stmtP e m) d
  | 0,d,hd=>by
    intro r s r' hr h
    rw [stmtP] at h
    refine stmtW_right he (bk:=fun r=>if isT [123] r=true then fail e 3 r else fail e 2 r) (fun r l r' _ h=>?_) r s r' hr h
    dsimp only at h
    split at h <;> cases h
  | m+1,d,hd=>by
    intro r s r' hr h
    rw [stmtP] at h
    refine stmtW_right he (bk:=fun r=>match want e [123] r with | .error f=>.error f | .ok r1=>restW (stmtP e m) (r1.length+1) r1) (fun r l r' hr h=>?_) r s r' hr h
    dsimp only at h
    cases h1:want e [123] r with
    | error f=>rw [h1] at h;cases h
    | ok r1=>
      rw [h1] at h;simp only at h
      have k1:=want_ts hr h1
      obtain⟨⟨a1,a2⟩,a3,k2⟩:=restW_right (stmt_right m (d+1) (by omega)) _ _ _ _ k1 h
      exact⟨okSs_of (by have:=k1.2;omega) a2,⟨by omega,a3⟩,k2⟩
include he in
theorem rest_right {r r':List Tok} {l:List Sm} (hr:TsOk r) (h:restP e 63 r=.ok (l,r')):OkSs l∧rightSs l 1=true∧TsOk r':=by
  obtain⟨⟨a1,a2⟩,a3,k⟩:=restW_right (stmt_right he 63 1 rfl) _ _ _ _ hr h
  exact⟨okSs_of (by have:=hr.2;omega) a2,a3,k⟩
def DOk (b:Bool) (x:Dc):Prop:=dcOk b x=true∧i64 x.wd∧i64 x.a
theorem decl_right {r r':List Tok} {x:Dc} (hr:TsOk r) (h:declP e r=.ok (x,r')):DOk false x∧TsOk r':=by
  unfold declP at h
  cases hn:nameP e r with
  | error f=>rw [hn] at h;cases h
  | ok p=>
    obtain⟨t,r1⟩:=p
    rw [hn] at h;simp only at h
    cases h
    obtain⟨n1,n2,k⟩:=name_ts hr hn
    exact⟨⟨by simp [dcOk,n1],i64_nat (n:=0) (by omega),n2⟩,k⟩
theorem init_right {r r':List Tok} {x:Dc} (hr:TsOk r) (h:initP e r=.ok (x,r')):DOk true x∧TsOk r':=by
  unfold initP at h
  cases hn:nameP e r with
  | error f=>rw [hn] at h;cases h
  | ok p=>
    obtain⟨t,r1⟩:=p
    rw [hn] at h;simp only at h
    obtain⟨n1,n2,k⟩:=name_ts hr hn
    split at h
    · obtain⟨R,hR⟩:∃ R,R=(if isT [45] r1.tail=true then r1.tail.tail else r1.tail):=⟨_,rfl⟩
      have kR:TsOk R:=by
        rw [hR];split
        · exact k.tail.tail
        · exact k.tail
      rw [← hR] at h
      split at h
      · cases h
      · rename_i y r2 hw
        cases h
        unfold wordP at hw
        split at hw
        · cases hw
          have hh:=kR.here.word
          refine⟨⟨?_,?_,n2⟩,kR.tail⟩
          · simp only [dcOk,n1,Bool.true_and,if_true,decide_eq_true_eq,ne_eq];split <;> omega
          · show i64 (if _ then _ else _)
            split
            · exact i64_neg hh
            · exact i64_nat hh
        · cases hw
    · cases h
      exact⟨⟨by simp [dcOk,n1],i64_nat (n:=0) (by omega),n2⟩,k⟩
theorem decl_len {r r':List Tok} {x:Dc} (h:declP e r=.ok (x,r')):r'.length<r.length:=by
  unfold declP nameP at h
  split at h
  · cases h
  · rename_i t r1 hn
    split at hn
    · rename_i hk
      cases hn;cases h
      exact tail_lt (kind_ne hk (by decide))
    · cases hn
theorem init_len {r r':List Tok} {x:Dc} (h:initP e r=.ok (x,r')):r'.length<r.length:=by
  unfold initP nameP at h
  split at h
  · cases h
  · rename_i t r1 hn
    split at hn
    · rename_i hk
      cases hn
      have h0:=tail_lt (kind_ne hk (by decide))
      split at h
      · obtain⟨R,hR⟩:∃ R,R=(if isT [45] r.tail.tail=true then r.tail.tail.tail else r.tail.tail):=⟨_,rfl⟩
        have kR:R.length≤r.tail.length:=by rw [hR];split <;> simp only [List.length_tail] <;> omega
        rw [← hR] at h
        unfold wordP at h
        split at h
        · cases h
        · rename_i y r2 hw
          split at hw
          · cases hw;cases h
            have:R.tail.length≤R.length:=by simp
            omega
          · cases hw
      · cases h;exact h0
    · cases hn
theorem list_right {one:List Tok→PR Dc} {b:Bool} (ho:∀ r x r',TsOk r→one r=.ok (x,r')→DOk b x∧TsOk r') (hl:∀ r x r',one r=.ok (x,r')→r'.length<r.length):∀ (n:Nat) (r:List Tok) (l:List Dc) (r':List Tok),TsOk r→listP e one n r=.ok (l,r')→(∀ x∈l,DOk b x)∧l.length+r'.length≤r.length∧TsOk r'
  | 0,r,l,r',_,h=>by simp [listP] at h
  | n+1,r,l,r',hr,h=>by
    simp only [listP] at h
    cases h1:one r with
    | error f=>rw [h1] at h;cases h
    | ok p=>
      obtain⟨x,r1⟩:=p
      rw [h1] at h;simp only at h
      obtain⟨a1,k1⟩:=ho _ _ _ hr h1
      have g1:=hl _ _ _ h1
      split at h
      · rename_i hc
        cases h2:listP e one n r1.tail with
        | error f=>rw [h2] at h;cases h
        | ok p=>
          obtain⟨l2,r2⟩:=p
          rw [h2] at h;simp only at h
          cases h
          obtain⟨b1,b2,k2⟩:=list_right ho hl n _ _ _ k1.tail h2
          have:=tail_lt (isT_ne hc)
          refine⟨fun y hy=>?_,by simp only [List.length_cons];omega,k2⟩
          rcases List.mem_cons.1 hy with rfl|hy
          · exact a1
          · exact b1 y hy
      · cases h2:want e [59] r1 with
        | error f=>rw [h2] at h;cases h
        | ok r2=>
          rw [h2] at h;simp only at h
          cases h
          obtain⟨hc,rfl⟩:=want_ok h2
          have:=tail_lt (isT_ne hc)
          refine⟨fun y hy=>?_,by simp only [List.length_cons,List.length_nil];omega,k1.tail⟩
          simp only [List.mem_cons,List.not_mem_nil,or_false] at hy
          subst hy;exact a1
theorem okD_of {b:Bool} {l:List Dc} (h:l.length≤1099511627776) (hx:∀ x∈l,DOk b x):OkD l:=⟨h,fun j x hj=>(hx x (List.mem_of_getElem? hj)).2⟩
theorem all_of {b:Bool} {l:List Dc} (hx:∀ x∈l,DOk b x):l.all (dcOk b)=true:=List.all_eq_true.2 fun x h=>(hx x h).1
theorem locals_right:∀ (n:Nat) (r:List Tok) (l:List Dc) (r':List Tok),TsOk r→localsP e n r=.ok (l,r')→(∀ x∈l,DOk false x)∧l.length+r'.length≤r.length∧TsOk r'
  | 0,r,l,r',_,h=>by simp [localsP] at h
  | n+1,r,l,r',hr,h=>by
    simp only [localsP] at h
    split at h
    · rename_i hc
      have g0:=tail_lt (isT_ne hc)
      cases h1:listP e (declP e) (r.length+1) r.tail with
      | error f=>rw [h1] at h;cases h
      | ok p=>
        obtain⟨l1,r1⟩:=p
        rw [h1] at h;simp only at h
        obtain⟨a1,a2,k1⟩:=list_right (fun _ _ _ h1 h2=>decl_right h1 h2) (fun _ _ _ h=>decl_len h) _ _ _ _ hr.tail h1
        cases h2:localsP e n r1 with
        | error f=>rw [h2] at h;cases h
        | ok p=>
          obtain⟨l2,r2⟩:=p
          rw [h2] at h;simp only at h
          cases h
          obtain⟨b1,b2,k2⟩:=locals_right n _ _ _ k1 h2
          refine⟨fun y hy=>?_,by simp only [List.length_append];omega,k2⟩
          rcases List.mem_append.1 hy with hy|hy
          · exact a1 y hy
          · exact b1 y hy
    · cases h
      exact⟨by simp,by simp,hr⟩
def TOk (t:Th):Prop:=thOk t=true∧OkD t.locals∧OkSs t.body∧i64 t.a
include he in
theorem thread_right {r r':List Tok} {t:Th} (hr:TsOk r) (h:threadP e r=.ok (t,r')):TOk t∧TsOk r':=by
  unfold threadP at h
  cases hn:nameP e r with
  | error f=>rw [hn] at h;cases h
  | ok p=>
    obtain⟨t0,r1⟩:=p
    rw [hn] at h;simp only at h
    obtain⟨n1,n2,k1⟩:=name_ts hr hn
    cases h2:want e [123] r1 with
    | error f=>rw [h2] at h;cases h
    | ok r2=>
      rw [h2] at h;simp only at h
      have k2:=want_ts k1 h2
      cases h3:localsP e (r2.length+1) r2 with
      | error f=>rw [h3] at h;cases h
      | ok p=>
        obtain⟨l,r3⟩:=p
        rw [h3] at h;simp only at h
        obtain⟨a1,a2,k3⟩:=locals_right _ _ _ _ k2 h3
        cases h4:restP e 63 r3 with
        | error f=>rw [h4] at h;cases h
        | ok p=>
          obtain⟨b,r4⟩:=p
          rw [h4] at h;simp only at h
          cases h
          obtain⟨b1,b2,k4⟩:=rest_right he k3 h4
          refine⟨⟨?_,okD_of (by have:=k2.2;show l.length≤_;omega) a1,b1,n2⟩,k4⟩
          simp [thOk,n1,all_of a1,b2]
include he in
theorem threads_right:∀ (n:Nat) (r:List Tok) (l:List Th) (r':List Tok),TsOk r→threadsP e n r=.ok (l,r')→(∀ x∈l,TOk x)∧l.length<n∧TsOk r'
  | 0,r,l,r',_,h=>by simp [threadsP] at h
  | n+1,r,l,r',hr,h=>by
    simp only [threadsP] at h
    split at h
    · cases h1:threadP e r.tail with
      | error f=>rw [h1] at h;cases h
      | ok p=>
        obtain⟨t,r1⟩:=p
        rw [h1] at h;simp only at h
        obtain⟨a1,k1⟩:=thread_right he hr.tail h1
        cases h2:threadsP e n r1 with
        | error f=>rw [h2] at h;cases h
        | ok p=>
          obtain⟨l2,r2⟩:=p
          rw [h2] at h;simp only at h
          cases h
          obtain⟨b1,b2,k2⟩:=threads_right n _ _ _ k1 h2
          refine⟨fun y hy=>?_,by simp only [List.length_cons];omega,k2⟩
          rcases List.mem_cons.1 hy with rfl|hy
          · exact a1
          · exact b1 y hy
    · cases h
      exact⟨by simp,by simp,hr⟩
include he in
theorem prog_right:∀ (n:Nat) (r:List Tok) (p:Pg),TsOk r→progP e n r=.ok p→(∀ x∈p.shared,DOk true x)∧(∀ x∈p.locks,DOk false x)∧(∀ x∈p.threads,TOk x)∧p.shared.length+p.locks.length≤r.length∧p.threads.length≤1048576
  | 0,r,p,_,h=>by simp [progP] at h
  | n+1,r,p,hr,h=>by
    simp only [progP] at h
    split at h
    · rename_i hc
      have g0:=tail_lt (isT_ne hc)
      cases h1:listP e (initP e) (r.length+1) r.tail with
      | error f=>rw [h1] at h;cases h
      | ok q=>
        obtain⟨l,r1⟩:=q
        rw [h1] at h;simp only at h
        obtain⟨a1,a2,k1⟩:=list_right (fun _ _ _ h1 h2=>init_right h1 h2) (fun _ _ _ h=>init_len h) _ _ _ _ hr.tail h1
        cases h2:progP e n r1 with
        | error f=>rw [h2] at h;cases h
        | ok p2=>
          rw [h2] at h;simp only at h
          cases h
          obtain⟨b1,b2,b3,b4,b5⟩:=prog_right n _ _ k1 h2
          refine⟨fun y hy=>?_,b2,b3,by simp only [List.length_append];omega,b5⟩
          rcases List.mem_append.1 hy with hy|hy
          · exact a1 y hy
          · exact b1 y hy
    · split at h
      · rename_i hc
        have g0:=tail_lt (isT_ne hc)
        cases h1:listP e (declP e) (r.length+1) r.tail with
        | error f=>rw [h1] at h;cases h
        | ok q=>
          obtain⟨l,r1⟩:=q
          rw [h1] at h;simp only at h
          obtain⟨a1,a2,k1⟩:=list_right (fun _ _ _ h1 h2=>decl_right h1 h2) (fun _ _ _ h=>decl_len h) _ _ _ _ hr.tail h1
          cases h2:progP e n r1 with
          | error f=>rw [h2] at h;cases h
          | ok p2=>
            rw [h2] at h;simp only at h
            cases h
            obtain⟨b1,b2,b3,b4,b5⟩:=prog_right n _ _ k1 h2
            refine⟨b1,fun y hy=>?_,b3,by simp only [List.length_append];omega,b5⟩
            rcases List.mem_append.1 hy with hy|hy
            · exact a1 y hy
            · exact b2 y hy
      · cases h1:threadsP e (r.length+1) r with
        | error f=>rw [h1] at h;cases h
        | ok q=>
          obtain⟨l,r1⟩:=q
          rw [h1] at h;simp only at h
          obtain⟨a1,a2,k1⟩:=threads_right he _ _ _ _ hr h1
          split at h
          · cases h
            exact⟨by simp,by simp,a1,by simp,by have:=hr.2;show l.length≤_;omega⟩
          · cases h
end
theorem pg_of {p:Pg} (h1:∀ x∈p.shared,DOk true x) (h2:∀ x∈p.locks,DOk false x) (h3:∀ x∈p.threads,TOk x) (h4:p.shared.length+p.locks.length≤1048576) (h5:p.threads.length≤1048576):pgOk p=true∧OkP p:=by
  refine⟨?_,okD_of (by omega) h1,okD_of (by omega) h2,by omega,fun j t hj=>(h3 t (List.mem_of_getElem? hj)).2⟩
  unfold pgOk
  rw [all_of h1,all_of h2,List.all_eq_true.2 fun x h=>(h3 x h).1];rfl
theorem front_ts {s:List UInt8} (hs:s.length≤65536):TsOk (front s).1:=by
  obtain⟨h1,h2⟩:=front_ok (s:=s) (T:=(front s).1) (f:=(front s).2) rfl
  exact⟨fun t ht=>⟨(h2 t ht).1,(h2 t ht).2.1,by have:=(h2 t ht).2.2;omega⟩,by omega⟩
theorem parse_right {s:List UInt8} {p:Pg} {a b:Nat} (h:parseRes s=(p,0,a,b)):pgOk p=true∧OkP p:=by
  unfold parseRes at h
  split at h
  · cases h
  · rename_i hs
    split at h
    · cases h
    · have hts:=front_ts (s:=s) (by omega)
      split at h
      · cases h
      · rename_i q hq
        cases h
        obtain⟨h1,h2,h3,h4,h5⟩:=prog_right (e:=s.length) (by omega) _ _ _ hts hq
        have:=hts.2
        exact pg_of h1 h2 h3 (by omega) h5
end ParS
/- The reader that goes on when it has failed: what it computes,against the parser that stops. No program in sight. -/
namespace ParS
open Sx LexS
structure RS where
  r:List Tok
  f:Flt
end ParS
/- The reader that goes on: lists,statements,threads,programs. -/
namespace ParS
open Sx LexS
def bnd {α β:Type} (p:PR α) (k:α→List Tok→PR β):PR β:=match p with
  | .error f=>.error f
  | .ok (a,r)=>k a r
def bndW {β:Type} (p:Except Flt (List Tok)) (k:List Tok→PR β):PR β:=match p with
  | .error f=>.error f
  | .ok r=>k r
section
variable {e:Nat}
section
variable {blk:List Tok→PR (List Sm)} {σ:RS} (hk:(here σ.r).kind=4→isSign (here σ.r).text=true)
include hk
end
def elseP (blk:List Tok→PR (List Sm)) (a:Nat) (x:Ex) (b:List Sm) (r1:List Tok):PR Sm:=if isT wElse r1=true then bnd (blk r1.tail) (fun l r2=>.ok (Sm.mk 3 [] [] [x] b l (a:Int),r2)) else .ok (Sm.mk 3 [] [] [x] b [] (a:Int),r1)
theorem choice_eq (blk:List Tok→PR (List Sm)) (a:Nat) (r:List Tok):bnd (condP e r) (fun x r=>bnd (blk r) fun b r1=>elseP blk a x b r1)=choiceP e blk a r:=by
  unfold choiceP bnd
  cases condP e r with
  | error f=>rfl
  | ok p=>
    dsimp only
    cases blk p.2 with
    | error f=>rfl
    | ok q=>
      dsimp only
      unfold elseP bnd
      split
      · cases blk q.2.tail <;> rfl
      · rfl
def swapQ (e:Nat) (r:List Tok):PR (List UInt8×Ex):=bndW (ParS.want e [40] r) fun r=>bnd (nameP e r) fun t r1=>bndW (ParS.want e [44] r1) fun r2=>bnd (exprP e 64 r2) fun x r3=>bndW (ParS.want e [41] r3) fun r4=>bndW (ParS.want e [59] r4) fun r5=>.ok ((t.text,x),r5)
theorem swapQ_eq (r:List Tok):swapQ e r=swapP e r:=by
  unfold swapQ swapP bnd bndW
  cases ParS.want e [40] r with
  | error f=>rfl
  | ok r0=>
    dsimp only
    cases nameP e r0 with
    | error f=>rfl
    | ok p=>
      dsimp only
      cases ParS.want e [44] p.2 with
      | error f=>rfl
      | ok r2=>
        dsimp only
        cases exprP e 64 r2 with
        | error f=>rfl
        | ok q=>
          dsimp only
          cases ParS.want e [41] q.2 with
          | error f=>rfl
          | ok r4=>dsimp only;cases ParS.want e [59] r4 <;> rfl
def sideP (e:Nat) (a:Nat) (n:List UInt8) (r1:List Tok):PR Sm:=if isT wSwap r1=true then bnd (swapQ e r1.tail) (fun p r2=>.ok (Sm.mk 2 n p.1 [p.2] [] [] (a:Int),r2)) else bnd (exprSemi e r1) (fun x r2=>.ok (Sm.mk 1 n [] [x] [] [] (a:Int),r2))
theorem assign_eq (a:Nat) (r:List Tok):bnd (nameP e r) (fun t r=>bndW (ParS.want e [61] r) fun r1=>sideP e a t.text r1)=assignP e a r:=by
  unfold assignP bnd bndW
  cases nameP e r with
  | error f=>rfl
  | ok p=>
    dsimp only
    cases ParS.want e [61] p.2 with
    | error f=>rfl
    | ok r1=>
      dsimp only
      unfold sideP bnd
      split
      · rw [swapQ_eq];cases swapP e r1.tail <;> rfl
      · cases exprSemi e r1 <;> rfl
theorem want_len {s:List UInt8} {r r':List Tok} (h:ParS.want e s r=.ok r'):r'.length<r.length:=by
  obtain⟨hc,rfl⟩:=want_ok h;exact tail_lt (isT_ne hc)
theorem thread_eq (r:List Tok):bnd (nameP e r) (fun t r=>bndW (ParS.want e [123] r) fun r1=>bnd (localsP e (r1.length+1) r1) fun l r2=>bnd (restP e 63 r2) fun b r3=>.ok ((⟨t.text,l,b,(t.at_:Int)⟩:Th),r3))=threadP e r:=by
  unfold threadP bnd bndW
  cases nameP e r with
  | error f=>rfl
  | ok p=>
    dsimp only
    cases ParS.want e [123] p.2 with
    | error f=>rfl
    | ok r1=>
      dsimp only
      cases localsP e (r1.length+1) r1 with
      | error f=>rfl
      | ok q=>dsimp only;cases restP e 63 q.2 <;> rfl
end
end ParS
