/- A part of the proof: contracts of functions and plain laws; each theorem says its own conditions. -/
import Derived.Test.YtnmhlpnapgojjaaGreatDoorPrettyLaidAl
import Derived.Test.YtnmhlpnapgojjaaGreatDoorPrettyLaidK12
import Derived.Test.YtnmhlpnapgojjaaGreatDoorPrettyLaidK3
import Derived.Test.YtnmhlpnapgojjaaGreatDoorPrettyLaidK2
import Derived.Test.YtnmhlpnapgojjaaGreatDoorPrettyLaidK6
set_option linter.unusedVariables false
set_option linter.unusedSimpArgs false
/- The parser by operators that wait,and the one that climbs: the same trees. -/
namespace ParS
open Sx LexS
abbrev gO1:=Nat×Nat×Ex
def zK:Nat→Int→Ex→List gO1→Ex×List gO1
  | 0,lv,x,l=>(x,l)
  | n+1,lv,x,[]=>(x,[])
  | n + 1, lv, x, (op, a, y) :: l => if zI8 (op : Int) < lv then (x, (op, a, y) :: l) else
      zK n lv (gB2 op a x (zK n (zI8 (op:Int)+1) y l).1) (zK n (zI8 (op:Int)+1) y l).2
theorem qB9:∀ (n:Nat) (lv:Int) (x:Ex) (l:List gO1),(zK n lv x l).2.length≤l.length
  | 0,lv,x,l=>Nat.le_refl _
  | n+1,lv,x,[]=>Nat.le_refl _
  | n+1,lv,x,(op,a,y)::l=>by
    simp only [zK]
    split
    · exact Nat.le_refl _
    · have h1:=qB9 n (zI8 (op:Int)+1) y l
      have h2:=qB9 n lv (gB2 op a x (zK n (zI8 (op:Int)+1) y l).1) (zK n (zI8 (op:Int)+1) y l).2
      simp only [List.length_cons];omega
theorem qD1:∀ (n m:Nat) (lv:Int) (x:Ex) (l:List gO1),l.length<n→l.length<m→zK n lv x l=zK m lv x l
  | 0,m,lv,x,l,h,_=>by omega
  | n+1,0,lv,x,l,_,h=>by omega
  | n+1,m+1,lv,x,[],_,_=>rfl
  | n+1,m+1,lv,x,(op,a,y)::l,h1,h2=>by
    simp only [List.length_cons] at h1 h2
    simp only [zK]
    rw [qD1 n m (zI8 (op:Int)+1) y l (by omega) (by omega)]
    split
    · rfl
    · have h3:=qB9 m (zI8 (op:Int)+1) y l
      exact qD1 n m _ _ _ (by omega) (by omega)
def qQ:List qS8→Ex→List gO1→Ex
  | [],x,l=>(zK (l.length+1) 1 x l).1
  | (op,a,left)::W,x,l=>qQ W (gB2 op a left (zK (l.length+1) (zI8 (op:Int)+1) x l).1) (zK (l.length+1) (zI8 (op:Int)+1) x l).2
theorem gJ7:∀ (W:List qS8) (x:Ex),qQ W x []=(qL4 true 0 W x).2
  | [],x=>rfl
  | (op,a,left)::W,x=>by
    simp only [qQ,qL4,zK,true_or,if_true]
    exact gJ7 W _
theorem gC4 (W:List qS8) (op a:Nat) (x y:Ex) (l:List gO1) (h1:1≤zI8 (op:Int)) (h2:∀ p W',W=p::W'→zI8 (p.1:Int)<zI8 (op:Int)):qQ W x ((op,a,y)::l)=qQ ((op,a,x)::W) y l:=by
  have key:∀ lv:Int,lv≤zI8 (op:Int)→zK (((op,a,y)::l).length+1) lv x ((op,a,y)::l)=
      zK ((zK (l.length+1) (zI8 (op:Int)+1) y l).2.length+1) lv (gB2 op a x (zK (l.length+1) (zI8 (op:Int)+1) y l).1) (zK (l.length+1) (zI8 (op:Int)+1) y l).2:=by
    intro lv hlv
    simp only [List.length_cons,zK]
    rw [if_neg (by omega)]
    have h3:=qB9 (l.length+1) (zI8 (op:Int)+1) y l
    exact qD1 _ _ _ _ _ (by omega) (by omega)
  cases W with
  | nil=>simp only [qQ];rw [key 1 h1]
  | cons p W=>
    obtain⟨o,b,left⟩:=p
    simp only [qQ]
    rw [key (zI8 (o:Int)+1) (by have:=h2 _ _ rfl;simp at this;omega)]
theorem kO6 (W:List qS8) (o b op a:Nat) (left x y:Ex) (l:List gO1) (h:zI8 (op:Int)≤zI8 (o:Int)):qQ ((o,b,left)::W) x ((op,a,y)::l)=qQ W (gB2 o b left x) ((op,a,y)::l):=by
  simp only [qQ,List.length_cons,zK]
  rw [if_pos (by omega)]
theorem gE5:∀ (W:List qS8) (x:Ex) (op a:Nat) (y:Ex) (l:List gO1),1≤zI8 (op:Int)→
    qQ W x ((op,a,y)::l)=qQ ((op,a,(qL4 false (zI8 (op:Int)) W x).2)::(qL4 false (zI8 (op:Int)) W x).1) y l
  | [],x,op,a,y,l,h=>gC4 [] op a x y l h (by simp)
  | (o,b,left)::W,x,op,a,y,l,h=>by
    by_cases hc:zI8 (op:Int)≤zI8 (o:Int)
    · rw [kO6 W o b op a left x y l hc,gE5 W _ op a y l h]
      simp only [qL4,Bool.false_eq_true,false_or,hc,if_true]
    · simp only [qL4,Bool.false_eq_true,false_or,hc,if_false]
      exact gC4 _ op a x y l h (by rintro p W' e;simp only [List.cons.injEq] at e;obtain⟨rfl,rfl⟩:=e;simp;omega)
def gT7 (l:List gO1):Prop:=∀ p∈l,1≤zI8 (p.1:Int)
theorem gF3:∀ (l:List gO1) (W:List qS8) (x:Ex),gT7 l→qS5 l W x=qQ W x l
  | [],W,x,_=>by simp only [qS5];rw [gJ7]
  | (op,a,y)::l,W,x,h=>by
    simp only [qS5]
    rw [gE5 W x op a y l (h _ (.head _)),gF3 l _ _ (fun p hp=>h p (.tail _ hp))]
theorem gR6 (l:List gO1) (x:Ex) (h:gT7 l):qS5 l [] x=(zK (l.length+1) 1 x l).1:=gF3 l [] x h
theorem gD9:∀ (n:Nat) (x:Ex) (l:List gO1),l.length<n→gT7 l→(zK n 1 x l).2=[]
  | 0,x,l,h,_=>by omega
  | n+1,x,[],_,_=>rfl
  | n+1,x,(op,a,y)::l,h,hf=>by
    simp only [List.length_cons] at h
    simp only [zK]
    rw [if_neg (by have:=hf _ (.head _);simp at this;omega)]
    have h1:=qB9 n (zI8 (op:Int)+1) y l
    refine gD9 n _ _ (by omega) (fun p hp=>?_)
    exact hf p (.tail _ (climbL_mem n _ _ _ p hp))
where climbL_mem:∀ (n:Nat) (lv:Int) (x:Ex) (l:List gO1) (p:gO1),p∈(zK n lv x l).2→p∈l
  | 0,lv,x,l,p,h=>h
  | n+1,lv,x,[],p,h=>h
  | n+1,lv,x,(op,a,y)::l,p,h=>by
    simp only [zK] at h
    split at h
    · exact h
    · exact .tail _ (climbL_mem n _ _ _ p (climbL_mem n _ _ _ p h))
def zK8 (u:List Tok→PR Ex):Nat→Int→Ex→List Tok→PR Ex
  | 0,lv,x,r=>.error (0,0)
  | n+1,lv,x,r=>match opT (here r) with
    | none=>.ok (x,r)
    | some op=>if zI8 (op:Int)<lv then .ok (x,r) else match u r.tail with
      | .error f=>.error f
      | .ok (y,r1)=>match zK8 u n (zI8 (op:Int)+1) y r1 with
        | .error f=>.error f
        | .ok (z,r2)=>zK8 u n lv (gB2 op (here r).at_ x z) r2
def kA6 (u:List Tok→PR Ex):Prop:=∀ r x r',u r=.ok (x,r')→r'.length<r.length
theorem kK2 {s:List UInt8} {op:Nat} (h:zN9 s=some op):1≤zI8 (op:Int):=by
  unfold zN9 at h
  have h1:=List.find?_some h
  have h2:=List.mem_of_find?_eq_some h
  simp only [List.mem_range] at h2
  simp only [Bool.and_eq_true] at h1
  have key:∀ k:Nat,k<19→zP9 (k:Int)=true→1≤zI8 (k:Int):=by decide
  exact key op h2 h1.1
theorem gI8 {t:Tok} {op:Nat} (h:opT t=some op):1≤zI8 (op:Int):=by
  unfold opT at h;split at h
  · exact kK2 h
  · cases h
theorem qS1 {r:List Tok} {op:Nat} (h:opT (here r)=some op):r≠[]:=by
  rintro rfl;simp [opT,here,gT0] at h
theorem qR3 (u:List Tok→PR Ex) (hu:kA6 u):∀ (n m:Nat) (r:List Tok),r.length<n→r.length<m→zN5 u n r=zN5 u m r
  | 0,m,r,h,_=>by omega
  | n+1,0,r,_,h=>by omega
  | n+1,m+1,r,h1,h2=>by
    simp only [zN5]
    cases hop:opT (here r) with
    | none=>rfl
    | some op=>
      simp only
      cases hx:u r.tail with
      | error f=>rfl
      | ok p=>
        obtain⟨x,r1⟩:=p
        simp only
        have:=hu _ _ _ hx
        have:=zC2 (qS1 hop)
        rw [qR3 u hu n m r1 (by omega) (by omega)]
theorem gY9 (u:List Tok→PR Ex):∀ (n:Nat) (r:List Tok) (l:List gO1) (r':List Tok),zN5 u n r=.ok (l,r')→gT7 l
  | 0,r,l,r',h=>by simp [zN5] at h
  | n+1,r,l,r',h=>by
    simp only [zN5] at h
    cases hop:opT (here r) with
    | none=>rw [hop] at h;cases h;intro p hp;simp at hp
    | some op=>
      rw [hop] at h
      simp only at h
      cases hx:u r.tail with
      | error f=>rw [hx] at h;cases h
      | ok p=>
        obtain⟨x,r1⟩:=p
        rw [hx] at h
        simp only at h
        cases hf:zN5 u n r1 with
        | error f=>rw [hf] at h;cases h
        | ok q=>
          obtain⟨l1,r2⟩:=q
          rw [hf] at h
          cases h
          intro p hp
          rcases List.mem_cons.1 hp with rfl|hp
          · exact gI8 hop
          · exact gY9 u n r1 l1 _ hf p hp
theorem qB0 (u:List Tok→PR Ex) (hu:kA6 u):∀ (n:Nat) (lv:Int) (x:Ex) (r:List Tok),r.length<n→
    (∀ l rE,zN5 u n r=.ok (l,rE)→∃ r',zK8 u n lv x r=.ok ((zK n lv x l).1,r')∧r'.length≤r.length∧zN5 u n r'=.ok ((zK n lv x l).2,rE)∧l.length≤r.length)∧
    (∀ f,zN5 u n r=.error f→zK8 u n lv x r=.error f∨∃ x' r',zK8 u n lv x r=.ok (x',r')∧r'.length≤r.length∧zN5 u n r'=.error f∧∃ op,opT (here r')=some op∧zI8 (op:Int)<lv)
  | 0,lv,x,r,h=>by omega
  | n+1,lv,x,r,h=>by
    cases hop:opT (here r) with
    | none=>
      have e1:zN5 u (n+1) r=.ok ([],r):=by simp only [zN5,hop]
      have e2:zK8 u (n+1) lv x r=.ok (x,r):=by simp only [zK8,hop]
      refine⟨fun l rE hl=>?_,fun f hf=>by rw [e1] at hf;cases hf⟩
      rw [e1] at hl;cases hl
      exact⟨r,e2,Nat.le_refl _,e1,Nat.zero_le _⟩
    | some op=>
      have hne:=zC2 (qS1 hop)
      cases hx:u r.tail with
      | error f0=>
        have e1:zN5 u (n+1) r=.error f0:=by simp only [zN5,hop,hx]
        refine⟨fun l rE hl=>by(rw [e1] at hl;cases hl),fun f hf=>?_⟩
        rw [e1] at hf;cases hf
        by_cases hlv:zI8 (op:Int)<lv
        · right
          exact⟨x,r,by simp only [zK8,hop,hlv,if_true],Nat.le_refl _,e1,op,hop,hlv⟩
        · left
          simp only [zK8,hop,hlv,if_false,hx]
      | ok p=>
        obtain⟨y,r1⟩:=p
        have hr1:=hu _ _ _ hx
        have e1:zN5 u (n+1) r=match zN5 u n r1 with | .error f=>.error f | .ok (l,r')=>.ok ((op,(here r).at_,y)::l,r'):=by first|(simp only [zN5,hop,hx];done)|(simp only [zN5,hop,hx];rfl)
        by_cases hlv:zI8 (op:Int)<lv
        · have e2:zK8 u (n+1) lv x r=.ok (x,r):=by simp only [zK8,hop,hlv,if_true]
          refine⟨fun l rE hl=>?_,fun f hf=>.inr ⟨x,r,e2,Nat.le_refl _,hf,op,hop,hlv⟩⟩
          have hl':=hl
          rw [e1] at hl'
          cases hf:zN5 u n r1 with
          | error f=>rw [hf] at hl';cases hl'
          | ok q=>
            obtain⟨l1,r2⟩:=q
            rw [hf] at hl'
            simp only [Except.ok.injEq,Prod.mk.injEq] at hl'
            obtain⟨rfl,rfl⟩:=hl'
            have hlen:=((qB0 u hu n 0 x r1 (by omega)).1 l1 _ hf).choose_spec.2.2.2
            refine⟨r,?_,Nat.le_refl _,?_,by simp only [List.length_cons];omega⟩
            · simp only [zK,hlv,if_true];exact e2
            · simp only [zK,hlv,if_true];exact hl
        · have e2:zK8 u (n+1) lv x r=match zK8 u n (zI8 (op:Int)+1) y r1 with | .error f=>.error f | .ok (z,r2)=>zK8 u n lv (gB2 op (here r).at_ x z) r2:=by simp only [zK8,hop,hlv,if_false,hx]
          obtain⟨ihA,ihB⟩:=qB0 u hu n (zI8 (op:Int)+1) y r1 (by omega)
          refine⟨fun l rE hl=>?_,fun f hf=>?_⟩
          · have hl':=hl
            rw [e1] at hl'
            cases hf:zN5 u n r1 with
            | error f=>rw [hf] at hl';cases hl'
            | ok q=>
              obtain⟨l1,r2⟩:=q
              rw [hf] at hl'
              simp only [Except.ok.injEq,Prod.mk.injEq] at hl'
              obtain⟨rfl,rfl⟩:=hl'
              obtain⟨r3,h1,h2,h3,h4⟩:=ihA l1 _ hf
              obtain⟨r4,k1,k2,k3,k4⟩:=(qB0 u hu n lv (gB2 op (here r).at_ x (zK n (zI8 (op:Int)+1) y l1).1) r3 (by omega)).1 _ _ h3
              refine⟨r4,?_,by omega,?_,by simp only [List.length_cons];omega⟩
              · rw [e2,h1]
                simp only [zK,hlv,if_false]
                exact k1
              · simp only [zK,hlv,if_false]
                rw [qR3 u hu (n+1) n r4 (by omega) (by omega)]
                exact k3
          · rw [e1] at hf
            have hf':zN5 u n r1=.error f:=by
              cases hq:zN5 u n r1 with
              | error g=>rw [hq] at hf;cases hf;rfl
              | ok q=>rw [hq] at hf;cases hf
            rcases ihB f hf' with h1|⟨x',r',h1,h2,h3,op',h4,h5⟩
            · left;rw [e2,h1]
            · rcases (qB0 u hu n lv (gB2 op (here r).at_ x x') r' (by omega)).2 f h3 with k1|⟨x2,r2,k1,k2,k3,k4⟩
              · left;rw [e2,h1];exact k1
              · right
                refine⟨x2,r2,by rw [e2,h1];exact k1,by omega,?_,k4⟩
                rw [qR3 u hu (n+1) n r2 (by omega) (by omega)]
                exact k3
def zV0 (u:List Tok→PR Ex) (lv:Int) (r:List Tok):PR Ex:=match u r with
  | .error f=>.error f
  | .ok (x,r1)=>zK8 u (r1.length+1) lv x r1
theorem zW5 (u:List Tok→PR Ex) (hu:kA6 u) (r:List Tok):zV0 u 1 r=zX4 u r:=by
  unfold zV0 zX4
  cases hx:u r with
  | error f=>rfl
  | ok p=>
    obtain⟨x,r1⟩:=p
    simp only
    obtain⟨hA,hB⟩:=qB0 u hu (r1.length+1) 1 x r1 (by omega)
    cases hf:zN5 u (r1.length+1) r1 with
    | error f=>
      simp only
      rcases hB f hf with h|⟨x',r',h1,h2,h3,op,h4,h5⟩
      · exact h
      · have:=gI8 h4;omega
    | ok q=>
      obtain⟨l,rE⟩:=q
      simp only
      obtain⟨r',h1,h2,h3,h4⟩:=hA l rE hf
      have hok:=gY9 u _ _ _ _ hf
      rw [gD9 _ _ _ (by omega) hok] at h3
      have e:r'=rE:=by
        simp only [zN5] at h3
        cases hop:opT (here r') with
        | none=>rw [hop] at h3;simp at h3;exact h3
        | some op=>
          rw [hop] at h3
          simp only at h3
          cases hy:u r'.tail with
          | error f=>rw [hy] at h3;cases h3
          | ok q2=>
            obtain⟨y,r2⟩:=q2
            rw [hy] at h3
            simp only at h3
            cases hq:zN5 u r1.length r2 with
            | error f=>rw [hq] at h3;cases h3
            | ok q3=>rw [hq] at h3;simp at h3
      rw [h1,e,gR6 l x hok,qD1 _ (l.length+1) 1 x l (by omega) (by omega)]
theorem qH1 (u:List Tok→PR Ex) (hu:kA6 u) (hL:∀ n lv x r z r',zK8 u n lv x r=.ok (z,r')→r'.length≤r.length):∀ (n m:Nat) (lv:Int) (x:Ex) (r:List Tok),r.length<n→r.length<m→zK8 u n lv x r=zK8 u m lv x r
  | 0,m,lv,x,r,h,_=>by omega
  | n+1,0,lv,x,r,_,h=>by omega
  | n+1,m+1,lv,x,r,h1,h2=>by
    simp only [zK8]
    cases hop:opT (here r) with
    | none=>rfl
    | some op=>
      simp only
      have:=zC2 (qS1 hop)
      split
      · rfl
      · cases hx:u r.tail with
        | error f=>rfl
        | ok p=>
          obtain⟨y,r1⟩:=p
          simp only
          have:=hu _ _ _ hx
          rw [qH1 u hu hL n m (zI8 (op:Int)+1) y r1 (by omega) (by omega)]
          cases hz:zK8 u m (zI8 (op:Int)+1) y r1 with
          | error f=>rfl
          | ok q=>
            obtain⟨z,r2⟩:=q
            simp only
            have:=hL _ _ _ _ _ _ hz
            exact qH1 u hu hL n m _ _ _ (by omega) (by omega)
theorem qF5 (u:List Tok→PR Ex) (hu:kA6 u):∀ (n:Nat) (lv:Int) (x:Ex) (r:List Tok) (z:Ex) (r':List Tok),zK8 u n lv x r=.ok (z,r')→r'.length≤r.length
  | 0,lv,x,r,z,r',h=>by simp [zK8] at h
  | n+1,lv,x,r,z,r',h=>by
    simp only [zK8] at h
    cases hop:opT (here r) with
    | none=>rw [hop] at h;cases h;exact Nat.le_refl _
    | some op=>
      rw [hop] at h
      simp only at h
      have:=zC2 (qS1 hop)
      split at h
      · cases h;exact Nat.le_refl _
      · cases hx:u r.tail with
        | error f=>rw [hx] at h;cases h
        | ok p=>
          obtain⟨y,r1⟩:=p
          rw [hx] at h
          simp only at h
          have:=hu _ _ _ hx
          cases hz:zK8 u n (zI8 (op:Int)+1) y r1 with
          | error f=>rw [hz] at h;cases h
          | ok q=>
            obtain⟨z1,r2⟩:=q
            rw [hz] at h
            simp only at h
            have:=qF5 u hu _ _ _ _ _ _ hz
            have:=qF5 u hu _ _ _ _ _ _ h
            omega
end ParS
namespace Go.Proofs.YtnmhlpnapgojjaaGreatDoor.Pq
open Go.RowKit Sx LexS ParS _root_.Go.Proofs.Tryz
theorem Tryz.info145:Tryz.prog.info? 145=some Tryz.t145:=by kernel_rfl
def HE (w:World) (x:Ex) (v:Value) (w':World):Prop:=∃ oq cq Sq,v=.agg (exC x oq cq).toArray∧ExR 42 w' oq cq x.kids Sq∧Nw w.heap.size Sq
def kC3 (fo : FuncId) (c : PCtx) (d : Nat) (F : List Tok → PR Ex) : Prop := ∀ (r : List Tok) (hr : r <:+ c.ts) (w : World) (hC : PCok c w) (hP : PAt c r w), qP5 Tryz.prog fo [.pointer (some ⟨c.pb, 0, none⟩), .int .i64 (d : Int)] w
    (gH7 c r (F r) [c.pb] w (HE w)) (gB4 c (F r) [c.pb] w)
abbrev ex00:List Value:=[.int .u8 0,.int .u8 0,.int .i64 0,str [],.slice none 0 0,.int .i64 0]
set_option maxHeartbeats 1000000 in
theorem gU9 (c:PCtx) (hR:c.R=75) (hg:c.g=0) (d m:Nat) (hU:kC3 108 c d (zC1 c.e m)):kC3 49 c d (zX4 (zC1 c.e m)):=by
 intro r hr w hC hP;refine zN0 [_,_] func49 rfl ntmps49 rfl ?_;obtain⟨w0,rfl⟩:∃ w0,w0=w:=⟨_,rfl⟩
 have hP':=hP;dsimp only [PAt,zO3] at hP;have st:=St.of1 [c.pb] hP;have h20:=hC.len;have hl:=zB6 hr;have hs:=kC7 (zC1 c.e m) r;replace st:=St.pushR (r:=.tree [] (fun w=>PdSs 42 w [] [] [])) st (Chg.refl _ _) (gW ⟨rfl,rfl⟩) (by simp [Res.at?]);replace st:=st.ownNil 145 8;refine a2 ?_;refine zA3 (zF8 (l:=[_,_,_,_,_,_]) st rfl rfl qV42 rfl ?_);intro b4 w hb4 st;refine a11 ?_;refine zA3 (zD1 [_,_] rfl rfl call108 rfl (hU r hr _ (hC.k1 st.chg) (by exact st.rs 3)) (by rintro _ w' ⟨f,hf,rfl,ch⟩ a ha;exact And.intro ha (Or.inr ⟨_,rfl,f,by rw [hs,hf],rfl,st.chg.trans ch⟩)) ?_);rintro _ w ⟨x0,r0,hx,hsfr0,hlnr0,hP1,cw,ox0,cx0,Sx0,rfl,hQ,hN⟩;have hNSx0:=hN.le st.chg.size;replace st:=St.prsT (b:=c.pb) st 3 rfl cw (.inl (.head _)) hP1 (zF9 hQ) hN.2;dsimp only [zA0] at st;rw [hx] at hs;dsimp only at hs;refine zA3 (zF8 (l:=[_,_,_,_,_,_]) st rfl rfl qV42 rfl ?_);intro b6 w hb6 st;refine zA3 (zC4 st 0 [_,_,_,_,_,_] qZ42 ?_);intro w st;dsimp only [zA0,wr] at st;refine a3 ?_;refine zC (w0:=w0) (M:=[c.pb]) (fun (y:ESt)=>[(0,.pointer (some ⟨c.pb,0,none⟩)),(1,.int .i64 (d:Int)),(4,.pointer (some ⟨b4,0,none⟩)),(5,.slice y.ow y.W.length y.cw),(6,.pointer (some ⟨b6,0,none⟩))]) (fun (y:ESt)=>[.own (.slice y.ow y.W.length y.cw) 145 8 y.W.length y.xs,.tree y.SW (fun w=>PdSs 42 w y.W y.xs y.SW),.blk b6 (.cells (exC y.x y.ox y.cx).toArray 42 (0,0)),.tree y.Sx (fun w=>ExR 42 w y.ox y.cx y.x.kids y.Sx),.blk b4 (.cells ex00.toArray 42 (0,0)),.blk c.pb (.cells (zO3 c y.r).toArray c.T (0,0))]) (fun (y:ESt) _=>y.r <:+ r∧y.r.length<r.length∧y.W.length+y.r.length≤r.length∧y.r.length<y.n∧Nw w0.heap.size y.SW∧Nw w0.heap.size y.Sx∧zX4 (zC1 c.e m) r=gK1 (zC1 c.e m) y.n y.W y.x y.r) (fun (y:ESt)=>y.r.length) ⟨[],x0,r0,r0.length+1,none,0,[],[],ox0,cx0,Sx0⟩ ⟨rfl,rfl,rfl,rfl,rfl,trivial⟩ (st.pick [3,4,0,1,2,5] rfl (by decide)) ⟨hsfr0,hlnr0,by simp;omega,by dsimp only;omega,Nw.nil,hNSx0,hs⟩ ?_;clear st hs;rintro ⟨W,x,r1,n,ow,cW,xs,SW,ox,cx,Sx⟩ w ⟨hsf1,hlt1,hWl,hn1,hSW,hSx,hs⟩ st;dsimp only at hsf1 hlt1 hWl hn1 hSW hSx hs st;have hr1:=hsf1.trans hr;obtain⟨n,rfl⟩:∃ k,n=k+1:=⟨n - 1,by omega⟩
 refine a4 ?_;refine zA3 (zA1 [_] rfl rfl call109 rfl (zY c r1 hr1 _ (hC.k1 st.chg) (by exact st.rs 5)) ?_);rintro _ w ⟨rfl,cw⟩;replace st:=st.call0 cw;refine zA3 (zF8 (l:=[_,_,_,_]) st rfl rfl qV118 rfl ?_);intro b7 w hb7 st;refine zA3 (zC4 st 0 [_,_,_,_] qZ118 ?_);intro w st;dsimp only [zA0,wr] at st;refine a4 ?_;refine yfz 1 qU118 qZ9 ?_;refine yl st 0 qA9 ?_;refine zA3 (zA1 [_] rfl rfl call110 rfl (kX (here r1).text _ (hg▸(hC.k1 st.chg).sig)) ?_);rintro _ _ ⟨rfl,rfl⟩;refine a7 ?_;refine zL2 (w0:=w0) (M:=[c.pb]) (fun (b:Bool)=>[(0,.pointer (some ⟨c.pb,0,none⟩)),(1,.int .i64 (d:Int)),(4,.pointer (some ⟨b4,0,none⟩)),(5,.slice (ESt.mk W x r1 n ow cW xs SW ox cx Sx).ow (ESt.mk W x r1 n ow cW xs SW ox cx Sx).W.length (ESt.mk W x r1 n ow cW xs SW ox cx Sx).cw),(6,.pointer (some ⟨b6,0,none⟩)),(7,.pointer (some ⟨b7,0,none⟩)),(8,.int .u8 (((zN9 (here r1).text).getD 0:Nat):Int)),(9,.bool b)]) (fun _=>[.blk b7 (.cells (tkL (here r1)).toArray 118 (0,0)),.own (.slice (ESt.mk W x r1 n ow cW xs SW ox cx Sx).ow (ESt.mk W x r1 n ow cW xs SW ox cx Sx).W.length (ESt.mk W x r1 n ow cW xs SW ox cx Sx).cw) 145 8 (ESt.mk W x r1 n ow cW xs SW ox cx Sx).W.length (ESt.mk W x r1 n ow cW xs SW ox cx Sx).xs,.tree (ESt.mk W x r1 n ow cW xs SW ox cx Sx).SW (fun w=>PdSs 42 w (ESt.mk W x r1 n ow cW xs SW ox cx Sx).W (ESt.mk W x r1 n ow cW xs SW ox cx Sx).xs (ESt.mk W x r1 n ow cW xs SW ox cx Sx).SW),.blk b6 (.cells (exC (ESt.mk W x r1 n ow cW xs SW ox cx Sx).x (ESt.mk W x r1 n ow cW xs SW ox cx Sx).ox (ESt.mk W x r1 n ow cW xs SW ox cx Sx).cx).toArray 42 (0,0)),.tree (ESt.mk W x r1 n ow cW xs SW ox cx Sx).Sx (fun w=>ExR 42 w (ESt.mk W x r1 n ow cW xs SW ox cx Sx).ox (ESt.mk W x r1 n ow cW xs SW ox cx Sx).cx (ESt.mk W x r1 n ow cW xs SW ox cx Sx).x.kids (ESt.mk W x r1 n ow cW xs SW ox cx Sx).Sx),.blk b4 (.cells ex00.toArray 42 (0,0)),.blk c.pb (.cells (zO3 c r1).toArray c.T (0,0))]) (fun b _=>b=(opT (here r1)).isSome) ?_ ?_;refine a2 ?_;refine vmb ?_ ?_;intro hg23;(try simp only [dn] at hg23);refine vy (zC3 rfl qU118 rfl rfl qZ116 rfl) ?_;refine yl st 0 qA116 ?_;refine a4 ?_;refine zB8 (decide (((here r1).kind:Int)=4)) ⟨rfl,rfl,rfl,rfl,rfl,rfl,rfl,rfl,trivial⟩ st ?_;show decide _=_;have hk4:((here r1).kind:Int)=4↔(here r1).kind=4:=by omega
 unfold opT
 by_cases hk:(here r1).kind=4
 simp [hk,hg23];simp [hk,hk4];intro hg23;(try simp only [dn] at hg23);refine a6 ?_;refine zB8 false ⟨rfl,rfl,rfl,rfl,rfl,rfl,rfl,rfl,trivial⟩ st ?_;show false=_;unfold opT;split;exact hg23.symm;rfl;clear st;rintro isop w hop st;dsimp only at hop st;refine zL2 (w0:=w0) (M:=[c.pb]) (fun (z:ESt)=>[(0,.pointer (some ⟨c.pb,0,none⟩)),(1,.int .i64 (d:Int)),(4,.pointer (some ⟨b4,0,none⟩)),(5,.slice z.ow z.W.length z.cw),(6,.pointer (some ⟨b6,0,none⟩)),(7,.pointer (some ⟨b7,0,none⟩)),(8,.int .u8 (((zN9 (here r1).text).getD 0:Nat):Int)),(9,.bool isop)]) (fun (z:ESt)=>[.blk b7 (.cells (tkL (here r1)).toArray 118 (0,0)),.own (.slice z.ow z.W.length z.cw) 145 8 z.W.length z.xs,.tree z.SW (fun w=>PdSs 42 w z.W z.xs z.SW),.blk b6 (.cells (exC z.x z.ox z.cx).toArray 42 (0,0)),.tree z.Sx (fun w=>ExR 42 w z.ox z.cx z.x.kids z.Sx),.blk b4 (.cells ex00.toArray 42 (0,0)),.blk c.pb (.cells (zO3 c r1).toArray c.T (0,0))]) (fun (z:ESt) _=>z.W.length≤W.length∧Nw w0.heap.size z.SW∧Nw w0.heap.size z.Sx∧qL4 (!isop) (zI8 (((zN9 (here r1).text).getD 0:Nat):Int)) W x=(z.W,z.x)∧(isop=false→z.W=[])) ?_ ?_;refine a1 ?_;refine zC (w0:=w0) (M:=[c.pb]) (fun (z:ESt)=>[(0,.pointer (some ⟨c.pb,0,none⟩)),(1,.int .i64 (d:Int)),(4,.pointer (some ⟨b4,0,none⟩)),(5,.slice z.ow z.W.length z.cw),(6,.pointer (some ⟨b6,0,none⟩)),(7,.pointer (some ⟨b7,0,none⟩)),(8,.int .u8 (((zN9 (here r1).text).getD 0:Nat):Int)),(9,.bool isop)]) (fun (z:ESt)=>[.blk b7 (.cells (tkL (here r1)).toArray 118 (0,0)),.own (.slice z.ow z.W.length z.cw) 145 8 z.W.length z.xs,.tree z.SW (fun w=>PdSs 42 w z.W z.xs z.SW),.blk b6 (.cells (exC z.x z.ox z.cx).toArray 42 (0,0)),.tree z.Sx (fun w=>ExR 42 w z.ox z.cx z.x.kids z.Sx),.blk b4 (.cells ex00.toArray 42 (0,0)),.blk c.pb (.cells (zO3 c r1).toArray c.T (0,0))]) (fun (z:ESt) _=>z.W.length≤W.length∧Nw w0.heap.size z.SW∧Nw w0.heap.size z.Sx∧qL4 (!isop) (zI8 (((zN9 (here r1).text).getD 0:Nat):Int)) W x=qL4 (!isop) (zI8 (((zN9 (here r1).text).getD 0:Nat):Int)) z.W z.x) (fun (z:ESt)=>z.W.length) ⟨W,x,r1,n,ow,cW,xs,SW,ox,cx,Sx⟩ ⟨rfl,rfl,rfl,rfl,rfl,rfl,rfl,rfl,trivial⟩ st ⟨Nat.le_refl _,hSW,hSx,rfl⟩ ?_;clear st;rintro ⟨zW,zx,zr,zn,zow,zcW,zxs,zSW,zox,zcx,zSx⟩ w ⟨hzl,hzSW,hzSx,hzr⟩ st;dsimp only at hzl hzSW hzSx hzr st;refine a4 ?_;refine vy (zB1 rfl qU140) ?_;refine a1 ?_;refine vmb ?_ ?_;intro hg31;(try simp only [dn] at hg31);obtain⟨⟨po,pa,pl⟩,W2,rfl⟩:∃ p W2,zW=p::W2:=by cases zW with|nil=>simp at hg31|cons p W2=>exact⟨p,W2,rfl⟩
 obtain⟨ol,cl,Sl,xr,Sr,rfl,hS,hRl,hPr⟩:=(st.res (i:=2) rfl).1;have hxl:=hPr.len;have hzl2:W2.length+1≤W.length:=by simpa using hzl
 have hcap:=jF (st.res (i:=1) rfl);obtain⟨gb,rfl⟩:=gT9 (st.res (i:=1) rfl) (by simp);refine a2 ?_;refine vmb ?_ ?_;intro hg34;(try simp only [dn] at hg34);refine a16 ?_;refine a5 ?_;subst hS;have st0:=(st.pick [2,0,1,3,4,5,6] rfl (by decide)).split hzSW.1 hPr hRl jA6 qY6;replace st:=st0.pick [2,3,0,1,4,5,6,7] rfl (by decide);refine a2 ?_;refine vy (zB1 rfl qU140) ?_;refine vy (qF4 rfl rfl (by simp:_=(W2.length:Int)) (by omega) (by omega)) ?_;refine vy (qA (k:=W2.length) rfl rfl qU140 qZ145 rfl (by simp)) ?_;refine vy (jB1 (vs:=pdC (po,pa,pl) ol cl) st 1 rfl isAgg145 qZ145 rfl rfl (fun j v hj=>(kI hxl).trans hj)) ?_;refine zA3 (zF8 (l:=[_,_,_,_,_,_,_,_]) st rfl rfl zeroValue145 rfl ?_);intro b10 w hb10 st;refine zA3 (zC4 st 0 [_,_,_,_,_,_,_,_] qZ145 ?_);intro w st;dsimp only [zA0,wr] at st;refine a6 ?_;refine vy (zB1 rfl qU140) ?_;refine vy (qF4 rfl rfl (by simp:_=(W2.length:Int)) (by omega) (by omega)) ?_;refine vy (jM2 (j:=W2.length) rfl rfl qU140 qZ145 rfl (by show W2.length≤zcW;simp at hcap;omega)) ?_;refine a4 ?_;replace st:=(st.pick [2,0,1,3,4,5,6,7,8] rfl (by decide)).shrink (m:=W2.length) (by simp) hxl;refine vy (zC3 rfl qU145 rfl rfl qZ39 rfl) ?_;refine yl st 1 qA39 ?_;refine yfz 2 qU145 qZ42 ?_;refine yla st 1 [_,_,_,_,_,_] qA42 qZ42 ?_;refine yla st 5 [_,_,_,_,_,_] qA42 qZ42 ?_;refine zA3 (zY7 (l:=exC pl ol cl++exC zx zox zcx) (E:=42) st [(0,_),(1,_)] rfl rfl rfl (fun w=>by simp [Instr.buildSlice,run_underlying qU40,qZ42,qV42,Instr.fill,newRow,newObj,Sem.run,go_sem,Value.cells]) ?_);intro b64 w hb64 st;refine yfz 1 qU145 qZ3 ?_;refine yl st 2 qA3 ?_;refine vy (ybd (.agg #[_,_,_,_,_,_]) [(0,_),(1,_),(4,_),(5,_)]) ?_;refine zA3 (zC4 st 6 [_,_,_,_,_,_] qZ42 ?_);intro w st;dsimp only [zA0,wr] at st;refine a2 ?_
 refine zA7 ⟨W2,gB2 po pa pl zx,zr,zn,some ⟨gb,0,none⟩,zcW,xr,Sr,some ⟨b64,0,none⟩,2,b64::(Sl++zSx)⟩  ⟨rfl,rfl,rfl,rfl,rfl,rfl,rfl,rfl,trivial⟩ (by
   have hE:=kL2 (st.res (i:=0) rfl) (st.res (i:=5) rfl).1 (st.res (i:=7) rfl).1
   exact(((st.pick [0,5,7,3,1,4,6,8,9] rfl (by decide)).joinN 3 (q:=.tree (b64::(Sl++zSx)) fun w=>ExR 42 w (some ⟨b64,0,none⟩) 2 [pl,zx] (b64::(Sl++zSx))) (fun k hk=>by
     rcases List.mem_cons.1 hk with rfl|hk
     · exact⟨_,.head _,.head _⟩
     · rcases List.mem_append.1 hk with h|h
       · exact⟨_,.tail _ (.head _),h⟩
       · exact⟨_,.tail _ (.tail _ (.head _)),h⟩) (zF9 hE))).pick [1,2,3,4,0,5,6] rfl (by decide)) ?_ ?_
 have hrd:qL4 (!isop) (zI8 (((zN9 (here r1).text).getD 0:Nat):Int)) ((po,pa,pl)::W2) zx=qL4 (!isop) (zI8 (((zN9 (here r1).text).getD 0:Nat):Int)) W2 (gB2 po pa pl zx):=by
  simp only [qL4]
  rw [if_pos (.inl (by rw [hg34];rfl))]
 refine⟨by simp at hzl;dsimp only;omega,hzSW.left,?_,hzr.trans hrd⟩;refine Nw.app (S:=[b64]) ⟨by simp,by simpa using hb64⟩ (hzSW.right.app hzSx (st.ne (i:=5) (j:=7) (by decide) rfl rfl)) (fun b hb hb'=>?_);rcases List.mem_append.1 hb' with h|h;exact st.ne (i:=0) (j:=5) (by decide) rfl rfl b hb h;exact st.ne (i:=0) (j:=7) (by decide) rfl rfl b hb h;simp;intro hg34;(try simp only [dn] at hg34);refine a2 ?_;refine vy (zB1 rfl qU140) ?_;refine vy (qF4 rfl rfl (by simp:_=(W2.length:Int)) (by omega) (by omega)) ?_;refine vy (qA (k:=W2.length) rfl rfl qU140 qZ145 rfl (by simp)) ?_;refine vy (zC3 rfl qU145 rfl rfl qZ39 rfl) ?_;refine vy (y_ldo st 1 rfl qA39 rfl (kI (j:=0) hxl)) ?_;refine zA3 (zA1 [_] rfl rfl call105 rfl (zR3 _ _ (hg▸(hC.k1 st.chg).sig)) ?_);rintro _ _ ⟨rfl,rfl⟩;refine a1 ?_;refine zA3 (zA1 [_] rfl rfl call105 rfl (zR3 _ _ (hg▸(hC.k1 st.chg).sig)) ?_);rintro _ _ ⟨rfl,rfl⟩;refine a5 ?_;refine vif ?_ ?_;intro hc47;(try simp only [dn] at hc47);refine a5 ?_;subst hS;have st0:=(st.pick [2,0,1,3,4,5,6] rfl (by decide)).split hzSW.1 hPr hRl jA6 qY6;replace st:=st0.pick [2,3,0,1,4,5,6,7] rfl (by decide);refine a2 ?_;refine vy (zB1 rfl qU140) ?_;refine vy (qF4 rfl rfl (by simp:_=(W2.length:Int)) (by omega) (by omega)) ?_;refine vy (qA (k:=W2.length) rfl rfl qU140 qZ145 rfl (by simp)) ?_;refine vy (jB1 (vs:=pdC (po,pa,pl) ol cl) st 1 rfl isAgg145 qZ145 rfl rfl (fun j v hj=>(kI hxl).trans hj)) ?_;refine zA3 (zF8 (l:=[_,_,_,_,_,_,_,_]) st rfl rfl zeroValue145 rfl ?_);intro b10 w hb10 st;refine zA3 (zC4 st 0 [_,_,_,_,_,_,_,_] qZ145 ?_);intro w st;dsimp only [zA0,wr] at st;refine a6 ?_;refine vy (zB1 rfl qU140) ?_;refine vy (qF4 rfl rfl (by simp:_=(W2.length:Int)) (by omega) (by omega)) ?_;refine vy (jM2 (j:=W2.length) rfl rfl qU140 qZ145 rfl (by show W2.length≤zcW;simp at hcap;omega)) ?_;refine a4 ?_;replace st:=(st.pick [2,0,1,3,4,5,6,7,8] rfl (by decide)).shrink (m:=W2.length) (by simp) hxl;refine vy (zC3 rfl qU145 rfl rfl qZ39 rfl) ?_;refine yl st 1 qA39 ?_;refine yfz 2 qU145 qZ42 ?_;refine yla st 1 [_,_,_,_,_,_] qA42 qZ42 ?_;refine yla st 5 [_,_,_,_,_,_] qA42 qZ42 ?_;refine zA3 (zY7 (l:=exC pl ol cl++exC zx zox zcx) (E:=42) st [(0,_),(1,_)] rfl rfl rfl (fun w=>by simp [Instr.buildSlice,run_underlying qU40,qZ42,qV42,Instr.fill,newRow,newObj,Sem.run,go_sem,Value.cells]) ?_);intro b64 w hb64 st;refine yfz 1 qU145 qZ3 ?_;refine yl st 2 qA3 ?_;refine vy (ybd (.agg #[_,_,_,_,_,_]) [(0,_),(1,_),(4,_),(5,_)]) ?_;refine zA3 (zC4 st 6 [_,_,_,_,_,_] qZ42 ?_);intro w st;dsimp only [zA0,wr] at st;refine a2 ?_
 refine zA7 ⟨W2,gB2 po pa pl zx,zr,zn,some ⟨gb,0,none⟩,zcW,xr,Sr,some ⟨b64,0,none⟩,2,b64::(Sl++zSx)⟩  ⟨rfl,rfl,rfl,rfl,rfl,rfl,rfl,rfl,trivial⟩ (by
   have hE:=kL2 (st.res (i:=0) rfl) (st.res (i:=5) rfl).1 (st.res (i:=7) rfl).1
   exact(((st.pick [0,5,7,3,1,4,6,8,9] rfl (by decide)).joinN 3 (q:=.tree (b64::(Sl++zSx)) fun w=>ExR 42 w (some ⟨b64,0,none⟩) 2 [pl,zx] (b64::(Sl++zSx))) (fun k hk=>by
     rcases List.mem_cons.1 hk with rfl|hk
     · exact⟨_,.head _,.head _⟩
     · rcases List.mem_append.1 hk with h|h
       · exact⟨_,.tail _ (.head _),h⟩
       · exact⟨_,.tail _ (.tail _ (.head _)),h⟩) (zF9 hE))).pick [1,2,3,4,0,5,6] rfl (by decide)) ?_ ?_
 have hrd:qL4 (!isop) (zI8 (((zN9 (here r1).text).getD 0:Nat):Int)) ((po,pa,pl)::W2) zx=qL4 (!isop) (zI8 (((zN9 (here r1).text).getD 0:Nat):Int)) W2 (gB2 po pa pl zx):=by
  simp only [qL4]
  rw [if_pos (.inr hc47)]
 refine⟨by simp at hzl;dsimp only;omega,hzSW.left,?_,hzr.trans hrd⟩;refine Nw.app (S:=[b64]) ⟨by simp,by simpa using hb64⟩ (hzSW.right.app hzSx (st.ne (i:=5) (j:=7) (by decide) rfl rfl)) (fun b hb hb'=>?_);rcases List.mem_append.1 hb' with h|h;exact st.ne (i:=0) (j:=5) (by decide) rfl rfl b hb h;exact st.ne (i:=0) (j:=7) (by decide) rfl rfl b hb h;simp;intro hc47;(try simp only [dn] at hc47);refine a4 ?_;refine zB8 ⟨(po,pa,pl)::W2,zx,zr,zn,some ⟨gb,0,none⟩,zcW,xr++pdC (po,pa,pl) ol cl,zSW,zox,zcx,zSx⟩ ⟨rfl,rfl,rfl,rfl,rfl,rfl,rfl,rfl,trivial⟩ st ?_;exact⟨hzl,hzSW,hzSx,hzr.trans (by simp only [qL4];rw [if_neg (by rw [hg34];simp;omega)]),fun h=>by rw [h] at hg34;cases hg34⟩;intro hg31;(try simp only [dn] at hg31);refine a16 ?_;refine a7 ?_;refine zB8 ⟨zW,zx,zr,zn,zow,zcW,zxs,zSW,zox,zcx,zSx⟩ ⟨rfl,rfl,rfl,rfl,rfl,rfl,rfl,rfl,trivial⟩ st ?_;obtain rfl:zW=[]:=List.eq_nil_of_length_eq_zero (by omega);exact⟨hzl,hzSW,hzSx,hzr,fun _=>rfl⟩;clear st;rintro ⟨zW,zx,zr,zn,zow,zcW,zxs,zSW,zox,zcx,zSx⟩ w ⟨hzl,hzSW,hzSx,hzr,hz0⟩ st;dsimp only at hzl hzSW hzSx hzr hz0 st;refine a7 ?_;refine vif ?_ ?_;intro hc69;(try simp only [dn] at hc69);have hif:isop=false:=by simpa using hc69
 have hno:opT (here r1)=none:=by
  rw [hif] at hop
  cases hq:opT (here r1) with
  | none=>rfl
  | some o=>rw [hq] at hop;cases hop
 obtain rfl:=hz0 hif;rw [hif] at hzr;simp only [Bool.not_false] at hzr;replace hs:=hs.trans (kC0 hno hzr);refine a2 ?_;refine yla st 3 [_,_,_,_,_,_] qA42 qZ42 ?_;refine zA3 (zC4 st 5 [_,_,_,_,_,_] qZ42 ?_);intro w st;dsimp only [zA0,wr] at st;refine a7 ?_;refine zB7 st (.inl rfl) results49 (by exact .cell 5 rfl rfl qA42 qZ42) ?_;refine .inl ⟨_,rfl,?_⟩;exact⟨zx,r1,hs,hsf1,hlt1,(by exact st.rs 6),st.chg,zox,zcx,zSx,rfl,(st.res (i:=4) rfl).1,hzSx⟩;intro hc69;(try simp only [dn] at hc69);have hit:isop=true:=by simpa using hc69
 obtain⟨op,hop1⟩:∃ op,opT (here r1)=some op:=by
  rw [hit] at hop
  cases hq:opT (here r1) with
  | none=>rw [hq] at hop;cases hop
  | some o=>exact⟨o,rfl⟩
 have hfo:zN9 (here r1).text=some op:=by
  unfold opT at hop1;split at hop1
  ·exact hop1
  ·cases hop1
 rw [hit,hfo] at hzr;simp only [Bool.not_true,Option.getD_some] at hzr;replace hs:=hs.trans (kB8 hop1 hzr);have hne1:=qS1 hop1;have htl1:=zC2 hne1;refine a5 ?_;refine zA3 (zA1 [_] rfl rfl call111 rfl (zX2 c r1 hr1 hne1 _ (hC.k1 st.chg) (by exact st.rs 6)) ?_);rintro _ w ⟨rfl,hP1,cw⟩;replace st:=St.prs (b:=c.pb) st 6 rfl cw (.inl (.head _)) hP1;dsimp only [zA0] at st;refine a6 ?_;refine yfz 3 qU118 qZ3 ?_;refine yl st 0 qA3 ?_;refine yla st 3 [_,_,_,_,_,_] qA42 qZ42 ?_;refine vy (ybd (.agg #[_,_,_,_,_,_,_,_]) [(0,_),(1,_),(2,_)]) ?_;refine zA3 (zI4 (l:=[_,_,_,_,_,_,_,_]) st rfl rfl rfl rfl qU140 qZ145 rfl rfl rfl zeroValue145 ?_);intro b79 w hb79 st;refine zA3 (qE3 (bytes:=80) st 2 0 rfl rfl rfl rfl rfl rfl qU140 Tryz.info145 rfl rfl rfl rfl rfl (by simp) rfl rfl (by unfold maxLen;omega) (by omega) ?_);intro oaQ capQ w st;dsimp only [zA0] at st;refine a4 ?_;rw [hfo] at st;dsimp only [Option.getD_some] at st;have hT':PdSs 42 w ((op,(here r1).at_,zx)::zW) (zxs++pdC (op,(here r1).at_,zx) zox zcx) (zSW++zSx):=⟨zox,zcx,zSx,zxs,zSW,rfl,rfl,(st.res (i:=5) rfl).1,(st.res (i:=3) rfl).1⟩
 have hSW':=hzSW.app hzSx (st.ne (i:=3) (j:=5) (by decide) rfl rfl);replace st:=((st.pick [3,5,2,4,6,7] rfl (by decide)).join (q:=.tree (zSW++zSx) (fun w=>PdSs 42 w ((op,(here r1).at_,zx)::zW) (zxs++pdC (op,(here r1).at_,zx) zox zcx) (zSW++zSx))) (fun k hk=>List.mem_append.1 hk) (gW hT'))
 refine a2 ?_;refine zA3 (zD1 [_,_] rfl rfl call108 rfl (hU r1.tail (zM7 hr1) _ (hC.k1 st.chg) (by exact st.rs 4)) (by rintro _ w' ⟨f,hf,rfl,ch⟩ a ha;exact And.intro ha (Or.inr ⟨_,rfl,f,by rw [hs,hf],rfl,st.chg.trans ch⟩)) ?_);rintro _ w ⟨x2,r2,hx,hsfr2,hlnr2,hP1,cw,oy,cy,Sy,rfl,hQ,hN⟩;have hNSy:=hN.le st.chg.size;replace st:=St.prsT (b:=c.pb) st 4 rfl cw (.inl (.head _)) hP1 (zF9 hQ) hN.2;dsimp only [zA0] at st;rw [hx] at hs;dsimp only at hs;refine zA3 (zC4 st 3 [_,_,_,_,_,_] qZ42 ?_);intro w st;dsimp only [zA0,wr] at st;refine a2 ?_;refine zA7 ⟨(op,(here r1).at_,zx)::zW,x2,r2,n,oaQ,capQ,zxs++pdC (op,(here r1).at_,zx) zox zcx,zSW++zSx,oy,cy,Sy⟩  ⟨rfl,rfl,rfl,rfl,rfl,trivial⟩ (st.pick [2,1,3,0,4,5] rfl (by decide)) ?_ ?_;exact⟨(hsfr2.trans (List.tail_suffix _)).trans hsf1,by dsimp only;omega,by simp only [List.length_cons];omega,by dsimp only;omega,hSW',hNSy,hs⟩;dsimp only;omega
theorem gE8 {r:List Tok} (h:zF r=true):(here r).kind=2∨(here r).kind=4:=by
 unfold zF isT at h;simp only [Bool.or_eq_true,Bool.and_eq_true,decide_eq_true_eq] at h;rcases h with (h|h)|h <;> exact h.2
theorem qW0 {e m:Nat} {r:List Tok} (h:zF r=false):zC1 e m r=zV1 e r:=by
 cases m with
 | zero=>simp only [zC1];rw [if_neg (by simp [h])]
 | succ m=>simp only [zC1];rw [if_neg (by simp [h])]
theorem qP4 {e:Nat} {r:List Tok} (h:zF r=true):zC1 e 0 r=fail e 3 r:=by simp only [zC1];rw [if_pos h]
theorem gA9 {e m:Nat} {r:List Tok} (h:zF r=true) (h2:(here r).text=[40]):zC1 e (m+1) r=match zX4 (zC1 e m) r.tail with
  | .error f=>.error f
  | .ok (x,r1)=>match want e [41] r1 with
   | .error f=>.error f
   | .ok r2=>.ok (x,r2):=by
 simp only [zC1];rw [if_pos h,if_pos h2];rfl
theorem kW1 {e m:Nat} {r:List Tok} (h:zF r=true) (h2:¬ (here r).text=[40]):zC1 e (m+1) r=match zC1 e m r.tail with
  | .error f=>.error f
  | .ok (x,r1)=>.ok (.mk 3 (if (here r).text=[33] then 18 else 17) 0 [] [x] ((here r).at_:Int),r1):=by
 simp only [zC1];rw [if_pos h,if_neg h2];rfl
set_option maxHeartbeats 1000000 in
theorem gM7 (c:PCtx) (hR:c.R=75) (d m:Nat) (hd:d+m=64) (hE:∀ k,m=k+1→kC3 49 c (d+1) (zX4 (zC1 c.e k))) (hU:∀ k,m=k+1→kC3 108 c (d+1) (zC1 c.e k)):kC3 108 c d (zC1 c.e m):=by
 intro r hr w hC hP;refine zN0 [_,_] func108 rfl ntmps108 rfl ?_;obtain⟨w0,rfl⟩:∃ w0,w0=w:=⟨_,rfl⟩
 have hP':=hP;dsimp only [PAt,zO3] at hP;have st:=St.of1 [c.pb] hP;have h20:=hC.len;have hl:=zB6 hr;refine a2 ?_;refine zA3 (zF8 (l:=[_,_,_,_,_,_]) st rfl rfl qV42 rfl ?_);intro b4 w hb4 st;refine a5 ?_;refine zA3 (zA1 [_] rfl rfl call109 rfl (zY c r hr _ (hC.k1 st.chg) (by exact st.rs 1)) ?_);rintro _ w ⟨rfl,cw⟩;replace st:=st.call0 cw;refine zA3 (zF8 (l:=[_,_,_,_]) st rfl rfl qV118 rfl ?_);intro b5 w hb5 st;refine zA3 (zC4 st 0 [_,_,_,_] qZ118 ?_);intro w st;dsimp only [zA0,wr] at st;refine a2 ?_;refine zL2 (w0:=w0) (M:=[c.pb]) (fun (b:Bool)=>[(0,.pointer (some ⟨c.pb,0,none⟩)),(1,.int .i64 (d:Int)),(4,.pointer (some ⟨b4,0,none⟩)),(5,.pointer (some ⟨b5,0,none⟩)),(6,.bool b)]) (fun _=>[.blk b5 (.cells (tkL (here r)).toArray 118 (0,0)),.blk b4 (.cells ex00.toArray 42 (0,0)),.blk c.pb (.cells (zO3 c r).toArray c.T (0,0))]) (fun b _=>b=zF r) ?_ ?_;refine a2 ?_;refine zA3 (zA1 [_,_] rfl rfl call90 rfl (qP2 c [45] r hr _ (hC.k1 st.chg) (by exact st.rs 2)) ?_);rintro _ w ⟨rfl,cw⟩;replace st:=st.call0 cw;refine vmb ?_ ?_;intro hg13;(try simp only [dn] at hg13);refine a9 ?_;refine zB8 true ⟨rfl,rfl,rfl,rfl,rfl,trivial⟩ st ?_;show true=_;unfold zF;rw [hg13];rfl;intro hg13;(try simp only [dn] at hg13);refine a1 ?_;refine zA3 (zA1 [_,_] rfl rfl call90 rfl (qP2 c [33] r hr _ (hC.k1 st.chg) (by exact st.rs 2)) ?_);rintro _ w ⟨rfl,cw⟩;replace st:=st.call0 cw;refine a1 ?_;refine vmb ?_ ?_;intro hg17;(try simp only [dn] at hg17);refine a5 ?_;refine zB8 true ⟨rfl,rfl,rfl,rfl,rfl,trivial⟩ st ?_;show true=_;unfold zF;rw [hg17];simp;intro hg17;(try simp only [dn] at hg17);refine a1 ?_;refine zA3 (zA1 [_,_] rfl rfl call90 rfl (qP2 c [40] r hr _ (hC.k1 st.chg) (by exact st.rs 2)) ?_);rintro _ w ⟨rfl,cw⟩;replace st:=st.call0 cw;refine a3 ?_;refine zB8 (isT [40] r) ⟨rfl,rfl,rfl,rfl,rfl,trivial⟩ st ?_;show isT [40] r=_;unfold zF;rw [hg13,hg17];rfl;clear st;rintro inn w hin st;refine a5 ?_;refine vmb ?_ ?_
 ·intro hg23;(try simp only [dn] at hg23);subst hg23;refine a6 ?_;refine vif ?_ ?_;intro hc21;(try simp only [dn] at hc21);have hd64:d=64:=by omega
  obtain rfl:m=0:=by omega
  have hs:=qP4 (e:=c.e) hin.symm;refine a2 ?_;refine zA3 (zD1 [_,_] rfl rfl call50 rfl (zU3 c 3 r hr _ (hC.k1 st.chg) (by exact st.rs 2) hR) (by rintro _ w' ⟨rfl,ch⟩ a ha;exact And.intro ha (Or.inr ⟨_,rfl,(atT c.e r,3),by rw [hs];rfl,rfl,st.chg.trans ch.of_nil⟩)) (fun _ _ h=>h.elim));intro hc21;(try simp only [dn] at hc21);have hd64:¬ d=64:=by omega
  obtain⟨m,rfl⟩:∃ k,m=k+1:=⟨m - 1,by omega⟩
  refine a2 ?_;refine vy (zC3 rfl qU118 rfl rfl qZ116 rfl) ?_;refine yl st 0 qA116 ?_;refine a4 ?_;refine vif ?_ ?_;intro hc29;exfalso;have:=gE8 hin.symm;revert hc29;simp;omega;intro hc29;(try simp only [dn] at hc29);refine a2 ?_;refine vy (zC3 rfl qU118 rfl rfl qZ116 rfl) ?_;refine yl st 0 qA116 ?_;refine a4 ?_;refine vif ?_ ?_;intro hc40;exfalso;have:=gE8 hin.symm;revert hc40;simp;omega;intro hc40;(try simp only [dn] at hc40);refine a7 ?_;refine vif ?_ ?_;intro hc51;exfalso;revert hc51;simp;intro hc51;(try simp only [dn] at hc51);refine a6 ?_;refine zA3 (zA1 [_] rfl rfl call111 rfl (zX2 c r hr (qU6 hin.symm) _ (hC.k1 st.chg) (by exact st.rs 2)) ?_);rintro _ w ⟨rfl,hP1,cw⟩;replace st:=St.prs (b:=c.pb) st 2 rfl cw (.inl (.head _)) hP1;dsimp only [zA0] at st;refine a5 ?_;refine yfz 1 qU118 qZ9 ?_;refine yl st 0 qA9 ?_;refine a3 ?_;refine vif ?_ ?_;intro hc60;(try simp only [dn] at hc60);have hs:=gA9 (e:=c.e) (m:=m) hin.symm hc60;have hne:=qU6 hin.symm;have hlt:=zC2 hne;have hr1:=zM7 hr;refine a4 ?_;refine vy (yin ((d+1:Nat):Int)) ?_;refine zA3 (zD1 [_,_] rfl rfl call49 rfl (hE m rfl r.tail hr1 _ (hC.k1 st.chg) (by exact st.rs 2)) (by rintro _ w' ⟨f,hf,rfl,ch⟩ a ha;exact And.intro ha (Or.inr ⟨_,rfl,f,by rw [hs,hf],rfl,st.chg.trans ch⟩)) ?_);rintro _ w ⟨x,r2,hx,hsfr2,hlnr2,hP1,cw,ox,cx,Sx,rfl,hQ,hN⟩;have hNSx:=hN.le st.chg.size;replace st:=St.prsT (b:=c.pb) st 2 rfl cw (.inl (.head _)) hP1 (zF9 hQ) hN.2;dsimp only [zA0] at st;rw [hx] at hs;dsimp only at hs;refine zA3 (zF8 (l:=[_,_,_,_,_,_]) st rfl rfl qV42 rfl ?_);intro b7 w hb7 st;refine zA3 (zC4 st 0 [_,_,_,_,_,_] qZ42 ?_);intro w st;dsimp only [zA0,wr] at st;refine a5 ?_;refine zA3 (zI4 (l:=[_]) st rfl rfl rfl rfl qU50 qZ9 rfl rfl rfl qV9 ?_);intro b66 w hb66 st;refine zA3 (zD1 [_,_] rfl rfl call145 rfl (zL7 c [[41]] (by simp) _ _ _ _ rfl r2 (hsfr2.trans hr1) _ (hC.k1 st.chg) (by exact st.rs 5) hR (st.res (i:=0) rfl) (by exact st.bne 0 5 (by decide) rfl rfl)) (by rintro _ w' ⟨f,hf,rfl,ch⟩ a ha;rw [zE7] at hf;exact And.intro ha (Or.inr ⟨_,rfl,f,by rw [hs,hf],rfl,st.chg.trans ch⟩)) ?_);rintro _ w ⟨r3,hx,hsfr3,hlnr3,hP1,cw⟩;rw [zE7] at hx;rw [hx] at hs;dsimp only at hs;replace st:=St.prs (b:=c.pb) st 5 rfl cw (.inl (.head _)) hP1;dsimp only [zA0] at st;have hr3:=hsfr3.trans (hsfr2.trans hr1);refine a4 ?_;refine yla st 1 [_,_,_,_,_,_] qA42 qZ42 ?_;refine zA3 (zC4 st 4 [_,_,_,_,_,_] qZ42 ?_);intro w st;dsimp only [zA0,wr] at st;refine a4 ?_;refine zB7 st (.inl rfl) results108 (by exact .cell 4 rfl rfl qA42 qZ42) ?_;refine .inl ⟨_,rfl,?_⟩
  exact⟨x,r3,hs,(hsfr3.trans hsfr2).trans (List.tail_suffix _),by simp at hlnr3;omega,(by exact st.rs 5),st.chg,ox,cx,Sx,rfl,(by exact(st.res (i:=2) rfl).1),hNSx⟩;intro hc60;(try simp only [dn] at hc60);have hs:=kW1 (e:=c.e) (m:=m) hin.symm hc60;have hne:=qU6 hin.symm;have hlt:=zC2 hne;have hr1:=zM7 hr;refine a10 ?_;refine yfz 1 qU118 qZ9 ?_;refine yl st 0 qA9 ?_;refine a3 ?_;refine vif ?_ ?_;intro hc71;(try simp only [dn] at hc71);rw [if_pos hc71] at hs;refine a3 ?_
  rotate_left
  intro hc71;(try simp only [dn] at hc71);rw [if_neg hc71] at hs;refine a1 ?_
  all_goals
   refine a2 ?_;refine vdr Tryz.mixed [Yt 0,Yt 1,Yt 2,Yt 3,Yt 6,Yt 7,Nt 4,Nt 5,Yt 8,Nt 9] [.blk b5 (.cells (tkL (here r)).toArray 118 (0,0))] st ?_;clear st;intro w st hS;(iterate 3 refine pm hS ?_);refine zA2 rfl rfl rfl hS (fun w st=>yin ((d+1:Nat):Int)) ?_;refine pfz hS 3 qU118 qZ3 ?_;refine pld hS 0 qA3 ?_;refine zD0 rfl (zD1 [_,_] rfl rfl call108 rfl (hU m rfl r.tail hr1 _ (hC.k1 st.chg) (by exact st.rs 2)) (by rintro _ w' ⟨f,hf,rfl,ch⟩ a ha;exact And.intro ha (Or.inr ⟨_,rfl,f,by rw [hs,hf],rfl,st.chg.trans ch⟩)) ?_);rintro _ w ⟨x,r2,hx,hsfr2,hlnr2,hP1,cw,ox,cx,Sx,rfl,hQ,hN⟩;have hNSx:=hN.le st.chg.size;replace st:=St.prsT (b:=c.pb) st 2 rfl cw (.inl (.head _)) hP1 (zF9 hQ) hN.2;dsimp only [zA0] at st;rw [hx] at hs;dsimp only at hs;refine zA9 st.dr ?_;intro hS;refine zD0 rfl (zI4 (l:=[_,_,_,_,_,_]) st rfl rfl rfl rfl qU40 qZ42 rfl rfl rfl qV42 ?_);intro b77 w hb77 st;refine zA9 st.dr ?_;intro hS;refine zA2 rfl rfl rfl hS (fun w st=>ybd (.agg #[_,_,_,_,_,_]) [(0,_),(1,_),(4,_),(5,_)]) ?_;refine zD0 rfl (zC4 st 3 [_,_,_,_,_,_] qZ42 ?_);intro w st;dsimp only [zA0,wr] at st;refine zA9 st.dr ?_;intro hS;refine zC6 (zA6 (zA8 ?_));refine zB7 st (.inl rfl) results108 (by exact .cell 3 rfl rfl qA42 qZ42) ?_;refine .inl ⟨_,rfl,?_⟩;exact⟨_,_,hs,hsfr2.trans (List.tail_suffix _),by omega,(by exact st.rs 4),st.chg,some ⟨b77,0,none⟩,1,b77::Sx,rfl,qE7 (st.res (i:=0) rfl) (st.res (i:=1) rfl).1,Nw.app (S:=[b77]) ⟨by simp,by simpa using hb77⟩ hNSx (fun b hb hb'=>st.ne (i:=0) (j:=1) (by decide) rfl rfl b hb hb')⟩
 intro hg23;(try simp only [dn] at hg23);subst hg23;refine a9 ?_;refine vy (zC3 rfl qU118 rfl rfl qZ116 rfl) ?_;refine yl st 0 qA116 ?_;refine a4 ?_;refine vif ?_ ?_;intro hc29;(try simp only [dn] at hc29);have hk:(here r).kind=3:=by omega
 have hne:=zN7 hk (by decide);have hs:=(qW0 (e:=c.e) (m:=m) hin.symm).trans (by unfold zV1;rw [if_pos hk]);refine a3 ?_;refine zA3 (zA1 [_] rfl rfl call111 rfl (zX2 c r hr hne _ (hC.k1 st.chg) (by exact st.rs 2)) ?_);rintro _ w ⟨rfl,hP1,cw⟩;replace st:=St.prs (b:=c.pb) st 2 rfl cw (.inl (.head _)) hP1;dsimp only [zA0] at st;refine a4 ?_;refine yfz 2 qU118 qZ2 ?_;refine yl st 0 qA2 ?_;refine yfz 3 qU118 qZ3 ?_;refine yl st 0 qA3 ?_;refine vy (ybd (.agg #[_,_,_,_,_,_]) [(0,_),(2,_),(5,_)]) ?_;refine zA3 (zC4 st 1 [_,_,_,_,_,_] qZ42 ?_);intro w st;dsimp only [zA0,wr] at st;refine a5 ?_;refine zB7 st (.inl rfl) results108 (by exact .cell 1 rfl rfl qA42 qZ42) ?_;refine .inl ⟨_,rfl,?_⟩;exact⟨_,_,hs,List.tail_suffix _,zC2 hne,(by exact st.rs 2),st.chg,none,0,[],rfl,⟨[],[],World.ownsRow_nil _ _ _ _,rfl,rfl,rfl⟩,Nw.nil⟩;intro hc29;(try simp only [dn] at hc29);refine a2 ?_;refine vy (zC3 rfl qU118 rfl rfl qZ116 rfl) ?_;refine yl st 0 qA116 ?_;refine a4 ?_;refine vif ?_ ?_;intro hc40;(try simp only [dn] at hc40);have hk:(here r).kind=1:=by omega
 have hne:=zN7 hk (by decide);have hs:=(qW0 (e:=c.e) (m:=m) hin.symm).trans (by unfold zV1;rw [if_neg (by omega),if_pos hk]);refine a3 ?_;refine zA3 (zA1 [_] rfl rfl call111 rfl (zX2 c r hr hne _ (hC.k1 st.chg) (by exact st.rs 2)) ?_);rintro _ w ⟨rfl,hP1,cw⟩;replace st:=St.prs (b:=c.pb) st 2 rfl cw (.inl (.head _)) hP1;dsimp only [zA0] at st;refine a4 ?_;refine yfz 1 qU118 qZ9 ?_;refine yl st 0 qA9 ?_;refine yfz 3 qU118 qZ3 ?_;refine yl st 0 qA3 ?_;refine vy (ybd (.agg #[_,_,_,_,_,_]) [(0,_),(3,_),(5,_)]) ?_;refine zA3 (zC4 st 1 [_,_,_,_,_,_] qZ42 ?_);intro w st;dsimp only [zA0,wr] at st;refine a5 ?_;refine zB7 st (.inl rfl) results108 (by exact .cell 1 rfl rfl qA42 qZ42) ?_;refine .inl ⟨_,rfl,?_⟩;exact⟨_,_,hs,List.tail_suffix _,zC2 hne,(by exact st.rs 2),st.chg,none,0,[],rfl,⟨[],[],World.ownsRow_nil _ _ _ _,rfl,rfl,rfl⟩,Nw.nil⟩;intro hc40;(try simp only [dn] at hc40);refine a7 ?_;refine vif ?_ ?_;intro hc51;(try simp only [dn] at hc51);have hs:=(qW0 (e:=c.e) (m:=m) hin.symm).trans (show zV1 c.e r=fail c.e 2 r by unfold zV1;rw [if_neg (by omega),if_neg (by omega)]);refine a2 ?_;refine zA3 (zD1 [_,_] rfl rfl call50 rfl (zU3 c 2 r hr _ (hC.k1 st.chg) (by exact st.rs 2) hR) (by rintro _ w' ⟨rfl,ch⟩ a ha;exact And.intro ha (Or.inr ⟨_,rfl,(atT c.e r,2),by rw [hs];rfl,rfl,st.chg.trans ch.of_nil⟩)) (fun _ _ h=>h.elim));intro hc51;exfalso;revert hc51;simp
end Go.Proofs.YtnmhlpnapgojjaaGreatDoor.Pq
/- A parser's statements. -/
namespace Sx
open Go Go.RowKit LexS ParS
abbrev jF8 (a:Int):List Value:=[.int .u8 0,str [],str [],.slice none 0 0,.slice none 0 0,.slice none 0 0,.int .i64 a]
def choiceP (e:Nat) (blk:List Tok→PR (List Sm)) (a:Nat) (r0:List Tok):PR Sm:=match condP e r0 with
  | .error f=>.error f
  | .ok (x,r)=>match blk r with
    | .error f=>.error f
    | .ok (b,r1)=>if isT zS6 r1=true then (match blk r1.tail with
        | .error f=>.error f
        | .ok (l,r2)=>.ok (.mk 3 [] [] [x] b l (a:Int),r2))
      else .ok (.mk 3 [] [] [x] b [] (a:Int),r1)
def loopP (e:Nat) (blk:List Tok→PR (List Sm)) (a:Nat) (r0:List Tok):PR Sm:=match condP e r0 with
  | .error f=>.error f
  | .ok (x,r)=>match blk r with
    | .error f=>.error f
    | .ok (b,r1)=>.ok (.mk 4 [] [] [x] b [] (a:Int),r1)
def guardP (e:Nat) (blk:List Tok→PR (List Sm)) (a:Nat) (r0:List Tok):PR Sm:=match zH1 e r0 with
  | .error f=>.error f
  | .ok (t,r)=>match blk r with
    | .error f=>.error f
    | .ok (b,r1)=>.ok (.mk 5 t.text [] [] b [] (a:Int),r1)
def printP (e:Nat) (a:Nat) (r0:List Tok):PR Sm:=match zN8 e 64 r0 with
  | .error f=>.error f
  | .ok (x,r)=>match want e [59] r with
    | .error f=>.error f
    | .ok r'=>.ok (.mk 6 [] [] [x] [] [] (a:Int),r')
def skipP (e:Nat) (a:Nat) (r0:List Tok):PR Sm:=match want e [59] r0 with
  | .error f=>.error f
  | .ok r=>.ok (.mk 7 [] [] [] [] [] (a:Int),r)
theorem zV6 (e:Nat) (blk:List Tok→PR (List Sm)) (ts:List Tok):zS0 e blk ts=
    if formT (here ts) wIf=true then choiceP e blk (atT e ts) ts.tail
    else if formT (here ts) zH=true then loopP e blk (atT e ts) ts.tail
    else if formT (here ts) zH7=true then guardP e blk (atT e ts) ts.tail
    else if formT (here ts) zI2=true then printP e (atT e ts) ts.tail
    else if formT (here ts) zO9=true then skipP e (atT e ts) ts.tail
    else zK9 e (atT e ts) ts:=by
  unfold zS0 choiceP loopP guardP printP skipP
  have hx:∀ r,zJ4 e r=match zN8 e 64 r with
      | .error f=>.error f
      | .ok (x,r)=>match want e [59] r with
        | .error f=>.error f
        | .ok r'=>.ok (x,r'):=fun r=>rfl
  split
  · rfl
  · split
    · rfl
    · split
      · rfl
      · split
        · rw [hx]
          cases zN8 e 64 ts.tail with
          | error f=>rfl
          | ok p=>
            simp only
            cases want e [59] p.2 <;> rfl
        · split <;> rfl
theorem kC4 (e a:Nat) (ts:List Tok):zK9 e a ts=match zH1 e ts with
    | .error f=>.error f
    | .ok (t,r)=>match want e [61] r with
      | .error f=>.error f
      | .ok r1=>if isT zY5 r1=true then (match want e [40] r1.tail with
          | .error f=>.error f
          | .ok r2=>match zH1 e r2 with
            | .error f=>.error f
            | .ok (o,r3)=>match want e [44] r3 with
              | .error f=>.error f
              | .ok r4=>match zN8 e 64 r4 with
                | .error f=>.error f
                | .ok (x,r5)=>match gA0 e [[41],[59]] r5 with
                  | .error f=>.error f
                  | .ok r6=>.ok (.mk 2 t.text o.text [x] [] [] (a:Int),r6))
        else match zN8 e 64 r1 with
          | .error f=>.error f
          | .ok (x,r2)=>match want e [59] r2 with
            | .error f=>.error f
            | .ok r3=>.ok (.mk 1 t.text [] [x] [] [] (a:Int),r3):=by
  unfold zK9 qK2 zJ4
  cases zH1 e ts with
  | error f=>rfl
  | ok p=>
    simp only
    cases want e [61] p.2 with
    | error f=>rfl
    | ok r1=>
      simp only
      split
      · cases want e [40] r1.tail with
        | error f=>rfl
        | ok r2=>
          simp only
          cases zH1 e r2 with
          | error f=>rfl
          | ok q=>
            simp only
            cases want e [44] q.2 with
            | error f=>rfl
            | ok r4=>
              simp only
              cases zN8 e 64 r4 with
              | error f=>rfl
              | ok y=>
                simp only [gA0]
                cases want e [41] y.2 with
                | error f=>rfl
                | ok r5=>
                  simp only
                  cases want e [59] r5 <;> rfl
      · cases zN8 e 64 r1 with
        | error f=>rfl
        | ok y=>
          simp only
          cases want e [59] y.2 <;> rfl
def gN (e:Nat):Nat→List Tok→PR (List Sm)
  | 0,r=>if isT [123] r=true then fail e 3 r else fail e 2 r
  | m+1,r=>match want e [123] r with
    | .error f=>.error f
    | .ok r1=>zN3 (zO4 e m) (r1.length+1) r1
theorem zO7 (e m:Nat):zO4 e m=zS0 e (gN e m):=by
  cases m with
  | zero=>funext ts;rw [zO4];rfl
  | succ m=>funext ts;rw [zO4];rfl
def gN0 (st:List Tok→PR Sm) (n:Nat) (acc:List Sm) (r:List Tok):PR (List Sm):=match zN3 st n r with
  | .error f=>.error f
  | .ok (l,r')=>.ok (acc++l,r')
theorem kJ5 (st:List Tok→PR Sm) (n:Nat) (r:List Tok):zN3 st n r=gN0 st n [] r:=by unfold gN0;cases zN3 st n r with|error f=>rfl|ok p=>rfl
theorem kN {st:List Tok→PR Sm} {n:Nat} {acc:List Sm} {r:List Tok} (h:isT [125] r=true):gN0 st (n+1) acc r=.ok (acc,r.tail):=by simp only [gN0,zN3,if_pos h,List.append_nil]
theorem kE {st:List Tok→PR Sm} {n:Nat} {acc:List Sm} {r:List Tok} (h:isT [125] r=false):gN0 st (n+1) acc r=match st r with
    | .error f=>.error f
    | .ok (s,r')=>gN0 st n (acc++[s]) r':=by
  simp only [gN0,zN3,if_neg (show ¬ isT [125] r=true by simp [h])]
  cases st r with
  | error f=>rfl
  | ok p=>
    simp only
    cases zN3 st n p.2 with
    | error f=>rfl
    | ok q=>simp
section
variable {tE tS:Nat} {w:World}
theorem qC6:ExR tE w none 0 [] []:=⟨[],[],World.ownsRow_nil _ _ _ _,rfl,rfl,rfl⟩
theorem zL3:SmR tE tS w none 0 [] []:=⟨[],[],World.ownsRow_nil _ _ _ _,rfl,rfl,rfl⟩
def jI1 (tE tS xb:Nat) (n:Nat) (s:Sm) (w':World):Prop:=∃ oe ob ol ce cb cl Se Sb Sl,w'.heap[xb]?=some (.cells (smC s oe ob ol ce cb cl).toArray tS (0,0))∧ExR tE w' oe ce s.e Se∧SmR tE tS w' ob cb s.body Sb∧SmR tE tS w' ol cl s.els Sl∧Nw n (Se++(Sb++Sl))
theorem jK4 {v1 v2 v3 v4 v5:Value} (s:List UInt8):(s=wIf∧qM1 [(wIf,v1),(zH,v2),(zH7,v3),(zI2,v4),(zO9,v5)] s=some v1)∨(s=zH∧qM1 [(wIf,v1),(zH,v2),(zH7,v3),(zI2,v4),(zO9,v5)] s=some v2)∨
    (s=zH7∧qM1 [(wIf,v1),(zH,v2),(zH7,v3),(zI2,v4),(zO9,v5)] s=some v3)∨(s=zI2∧qM1 [(wIf,v1),(zH,v2),(zH7,v3),(zI2,v4),(zO9,v5)] s=some v4)∨(s=zO9∧qM1 [(wIf,v1),(zH,v2),(zH7,v3),(zI2,v4),(zO9,v5)] s=some v5)∨
    ((s≠wIf∧s≠zH∧s≠zH7∧s≠zI2∧s≠zO9)∧qM1 [(wIf,v1),(zH,v2),(zH7,v3),(zI2,v4),(zO9,v5)] s=none):=by
  by_cases h1:s=wIf
  · exact .inl ⟨h1,by simp [qM1,h1]⟩
  by_cases h2:s=zH
  · exact .inr (.inl ⟨h2,by subst h2;simp [qM1,h1]⟩)
  by_cases h3:s=zH7
  · exact .inr (.inr (.inl ⟨h3,by subst h3;simp [qM1,h1,h2]⟩))
  by_cases h4:s=zI2
  · exact .inr (.inr (.inr (.inl ⟨h4,by subst h4;simp [qM1,h1,h2,h3]⟩)))
  by_cases h5:s=zO9
  · exact .inr (.inr (.inr (.inr (.inl ⟨h5,by subst h5;simp [qM1,h1,h2,h3,h4]⟩))))
  · exact .inr (.inr (.inr (.inr (.inr ⟨⟨h1,h2,h3,h4,h5⟩,by simp [qM1,h1,h2,h3,h4,h5]⟩))))
end
section
variable {w w' w0:World} {M:List Nat} {hs:List Res}
theorem St.prs2 {b1 b2:Nat} {o1 o2 o1' o2':Obj} {q:Res} (st:St w0 M (.blk b1 o1::.blk b2 o2::hs) w) (ch:Chg [b1,b2] w w') (hm1:b1∈M∨w0.heap.size≤b1) (hm2:b2∈M∨w0.heap.size≤b2)
    (h1:w'.heap[b1]?=some o1') (h2:w'.heap[b2]?=some o2') (hq:q.holds w0.heap.size w') (hqa:∀ k∈q.at?,w.heap.size≤k):St w0 M (q::.blk b1 o1'::.blk b2 o2'::hs) w':=by
  have hne:b1≠b2:=st.bne 0 1 (by decide) rfl rfl
  have l1:b1<w.heap.size:=(Array.getElem?_eq_some_iff.1 (st.res (i:=0) rfl)).1
  have l2:b2<w.heap.size:=(Array.getElem?_eq_some_iff.1 (st.res (i:=1) rfl)).1
  have st1:=st.join (q:=.tree [b1,b2] (fun _=>True)) (fun k hk=>by
    simp only [Res.at?,List.mem_cons,List.not_mem_nil,or_false] at hk ⊢;exact hk) ⟨trivial,fun k hk=>by
      simp only [List.mem_cons,List.not_mem_nil,or_false] at hk
      rcases hk with rfl|rfl <;> assumption,fun _ _ _ _ _=>trivial⟩
  have st2:=st1.swapPush (i:=0) (r':=.tree [b1,b2] (fun _=>True)) rfl ch (fun k hk=>hk) (fun k hk=>by
      simp only [List.mem_cons,List.not_mem_nil,or_false] at hk
      rcases hk with rfl|rfl <;> assumption) (fun k hk=>hk) ⟨trivial,fun k hk=>by
      simp only [List.mem_cons,List.not_mem_nil,or_false] at hk
      rcases hk with rfl|rfl
      · exact Nat.lt_of_lt_of_le l1 ch.size
      · exact Nat.lt_of_lt_of_le l2 ch.size,fun _ _ _ _ _=>trivial⟩ hq hqa
  have st3:=st2.perm (List.Perm.swap _ _ _)
  have st4:=st3.split2 (r:=.blk b1 o1') (s:=.blk b2 o2') (fun k hk=>by
    simp only [Res.at?,List.mem_cons,List.not_mem_nil,or_false] at hk ⊢;exact .inl hk) (fun k hk=>by
    simp only [Res.at?,List.mem_cons,List.not_mem_nil,or_false] at hk ⊢;exact .inr hk) (fun k hk hk'=>by
    simp only [Res.at?,List.mem_cons,List.not_mem_nil,or_false] at hk hk';exact hne (hk.symm.trans hk')) h1 h2
  exact st4.perm ((List.Perm.cons _ (List.Perm.swap _ _ _)).trans (List.Perm.swap _ _ _))
end
theorem zZ9 {t:Tok} {s s':List UInt8} (h:t.text=s') (hne:s'≠s):¬ formT t s=true:=by unfold formT;simp [h,hne]
theorem qR6 {e:Nat} {blk:List Tok→PR (List Sm)} {ts:List Tok} (h:((here ts).text≠wIf∧(here ts).text≠zH∧(here ts).text≠zH7∧(here ts).text≠zI2∧(here ts).text≠zO9)∨(here ts).kind≠2) :
    zS0 e blk ts=zK9 e (atT e ts) ts:=by
  have key:∀ s,(here ts).text≠s∨(here ts).kind≠2→¬ formT (here ts) s=true:=fun s h=>by
    unfold formT
    rcases h with h|h <;> simp [h]
  rw [zV6,if_neg (key _ (h.imp (·.1) id)),if_neg (key _ (h.imp (·.2.1) id)),if_neg (key _ (h.imp (·.2.2.1) id)),if_neg (key _ (h.imp (·.2.2.2.1) id)),if_neg (key _ (h.imp (·.2.2.2.2) id))]
end Sx
namespace Go.Proofs.YtnmhlpnapgojjaaGreatDoor.Pq
open Go.RowKit Sx LexS ParS _root_.Go.Proofs.Tryz
theorem qP8 (c:PCtx) (hR:c.R=75) (hg:c.g=0):∀ (m d:Nat),d+m=64→kC3 108 c d (zC1 c.e m)
 | 0,d,h=>gM7 c hR d 0 h (fun k hk=>by omega) (fun k hk=>by omega)
 | m + 1, d, h => gM7 c hR d (m + 1) h (fun k hk => by
     obtain rfl:k=m:=by omega
     exact gU9 c hR hg (d+1) k (qP8 c hR hg k (d+1) (by omega))) (fun k hk=>by
     obtain rfl:k=m:=by omega
     exact qP8 c hR hg k (d+1) (by omega))
theorem qM7 (c:PCtx) (hR:c.R=75) (hg:c.g=0) (r:List Tok) (hr:r <:+ c.ts) (w:World) (hC:PCok c w) (hP:PAt c r w):qP5 Tryz.prog 49 [.pointer (some ⟨c.pb,0,none⟩),.int .i64 0] w
    (gH7 c r (zN8 c.e 64 r) [c.pb] w (HE w)) (gB4 c (zN8 c.e 64 r) [c.pb] w):=gU9 c hR hg 0 64 (qP8 c hR hg 64 0 rfl) r hr w hC hP
def HX (w:World) (x:Ex) (v:Value) (w':World):Prop:=∃ oq cq Sq,v=.slice oq 1 cq∧ExR 42 w' oq cq [x] Sq∧Nw w.heap.size Sq
theorem gL4 (c:PCtx) (hR:c.R=75) (hg:c.g=0) (r:List Tok) (hr:r <:+ c.ts) (w:World) (hC:PCok c w) (hP:PAt c r w):qP5 Tryz.prog 260 [.pointer (some ⟨c.pb,0,none⟩)] w
    (gH7 c r (condP c.e r) [c.pb] w (HX w)) (gB4 c (condP c.e r) [c.pb] w):=by
 refine zN0 [_] func260 rfl ntmps260 rfl ?_;obtain⟨w0,rfl⟩:∃ w0,w0=w:=⟨_,rfl⟩
 have hP':=hP;dsimp only [PAt,zO3] at hP;have st:=St.of1 [c.pb] hP;have h20:=hC.len;have hl:=zB6 hr;have hs:=condP.eq_1 c.e r;refine a8 ?_;refine zA3 (zI4 (l:=[_]) st rfl rfl rfl rfl qU50 qZ9 rfl rfl rfl qV9 ?_);intro b5 w hb5 st;refine zA3 (zD1 [_,_] rfl rfl call145 rfl (zL7 c [[40]] (by simp) _ _ _ _ rfl r hr _ (hC.k1 st.chg) (by exact st.rs 1) hR (st.res (i:=0) rfl) (by exact st.bne 0 1 (by decide) rfl rfl)) (by rintro _ w' ⟨f,hf,rfl,ch⟩ a ha;rw [zE7] at hf;exact And.intro ha (Or.inr ⟨_,rfl,f,by rw [hs,hf],rfl,st.chg.trans ch⟩)) ?_);rintro _ w ⟨r1,hx,hsfr1,hlnr1,hP1,cw⟩;rw [zE7] at hx;rw [hx] at hs;dsimp only at hs;replace st:=St.prs (b:=c.pb) st 1 rfl cw (.inl (.head _)) hP1;have hr1:=hsfr1.trans hr;refine a5 ?_;refine zA3 (zD1 [_,_] rfl rfl call49 rfl (qM7 c hR hg r1 hr1 _ (hC.k1 st.chg) (by exact st.rs 1)) (by rintro _ w' ⟨f,hf,rfl,ch⟩ a ha;exact And.intro ha (Or.inr ⟨_,rfl,f,by rw [hs,hf],rfl,st.chg.trans ch⟩)) ?_);rintro _ w ⟨x,r2,hx,hsfr2,hlnr2,hP1,cw,ox,cx,Sx,rfl,hQ,hN⟩;have hNSx:=hN.le st.chg.size;replace st:=St.prsT (b:=c.pb) st 1 rfl cw (.inl (.head _)) hP1 (zF9 hQ) hN.2;rw [hx] at hs;dsimp only at hs;have hr2:=hsfr2.trans hr1;refine zA3 (zF8 (l:=[_,_,_,_,_,_]) st rfl rfl qV42 rfl ?_);intro b3 w hb3 st;refine zA3 (zC4 st 0 [_,_,_,_,_,_] qZ42 ?_);intro w st;refine a5 ?_;refine zA3 (zI4 (l:=[_]) st rfl rfl rfl rfl qU50 qZ9 rfl rfl rfl qV9 ?_);intro b10 w hb10 st;refine zA3 (zD1 [_,_] rfl rfl call145 rfl (zL7 c [[41]] (by simp) _ _ _ _ rfl r2 hr2 _ (hC.k1 st.chg) (by exact st.rs 4) hR (st.res (i:=0) rfl) (by exact st.bne 0 4 (by decide) rfl rfl)) (by rintro _ w' ⟨f,hf,rfl,ch⟩ a ha;rw [zE7] at hf;exact And.intro ha (Or.inr ⟨_,rfl,f,by rw [hs,hf],rfl,st.chg.trans ch⟩)) ?_);rintro _ w ⟨r3,hx,hsfr3,hlnr3,hP1,cw⟩;rw [zE7] at hx;rw [hx] at hs;dsimp only at hs;replace st:=St.prs (b:=c.pb) st 4 rfl cw (.inl (.head _)) hP1;have hr3:=hsfr3.trans hr2;refine a4 ?_;refine yla st 1 [_,_,_,_,_,_] qA42 qZ42 ?_;refine zA3 (zI4 (l:=[_,_,_,_,_,_]) st rfl rfl rfl rfl qU40 qZ42 rfl rfl rfl qV42 ?_);intro b13 w hb13 st;refine a4 ?_;refine zB7 st (.inl rfl) results260 (.tmp rfl) ?_;refine .inl ⟨_,rfl,?_⟩;exact⟨x,r3,hs,hsfr3.trans (hsfr2.trans hsfr1),by simp at hlnr3 hlnr1;omega,(by exact st.rs 5),st.chg,some ⟨b13,0,none⟩,1,b13::Sx,rfl,qE7 (st.res (i:=0) rfl) (by exact(st.res (i:=3) rfl).1),Nw.app (S:=[b13]) ⟨by simp,by simpa using hb13⟩ hNSx (fun b hb hb'=>by exact st.ne (i:=0) (j:=3) (by decide) rfl rfl b hb hb')⟩
theorem kP6 (c:PCtx) (hR:c.R=75) (hg:c.g=0) (a:Nat) (r:List Tok) (hr:r <:+ c.ts) (w:World) (hC:PCok c w) (hP:PAt c r w) (xb:Nat) (hX:w.heap[xb]?=some (.cells (jF8 (a:Int)).toArray 67 (0,0))) (hne:c.pb≠xb) (hxn:c.n0≤xb) (dv:Value):qP5 Tryz.prog 249 [.pointer (some ⟨c.pb,0,none⟩),.pointer (some ⟨xb,0,none⟩),dv] w
    (gH7 c r (skipP c.e a r) [c.pb,xb] w (fun s _ w'=>jI1 42 67 xb w.heap.size s w')) (gB4 c (skipP c.e a r) [c.pb,xb] w):=by
 refine zN0 [_,_,_] func249 rfl ntmps249 rfl ?_;obtain⟨w0,rfl⟩:∃ w0,w0=w:=⟨_,rfl⟩
 have hP':=hP;dsimp only [PAt,zO3] at hP;have st:=St.of2 [c.pb,xb] hP hX hne;have KC:∀ {w'},Chg [c.pb,xb] w0 w'→PCok c w':=fun ch=>hC.k2 ch hxn
 have h20:=hC.len;have hl:=zB6 hr;have hs:=skipP.eq_1 c.e a r;refine a4 ?_;refine vy (zC3 rfl qU67 rfl rfl qZ64 rfl) ?_;refine zA3 (est st 1 qZ64 ?_);intro w st;refine a4 ?_;refine zA3 (zI4 (l:=[_]) st rfl rfl rfl rfl qU50 qZ9 rfl rfl rfl qV9 ?_);intro b10 w hb10 st;refine zA3 (zD1 [_,_] rfl rfl call145 rfl (zL7 c [[59]] (by simp) _ _ _ _ rfl r hr _ (KC st.chg) (by exact st.rs 1) hR (st.res (i:=0) rfl) (by exact st.bne 0 1 (by decide) rfl rfl)) (by rintro _ w' ⟨f,hf,rfl,ch⟩ a ha;rw [zE7] at hf;exact And.intro ha (Or.inr ⟨_,rfl,f,by rw [hs,hf],rfl,st.chg.trans (ch.mono (by simp))⟩)) ?_);rintro _ w ⟨r1,hx,hsfr1,hlnr1,hP1,cw⟩;rw [zE7] at hx;rw [hx] at hs;dsimp only at hs;replace st:=St.prs (b:=c.pb) st 1 rfl cw (.inl (.head _)) hP1;have hr1:=hsfr1.trans hr;refine a1 ?_;refine zD4 (.inr rfl) results249 ?_;refine .inl ⟨_,rfl,?_⟩;exact⟨_,r1,hs,hsfr1,by simp at hlnr1;omega,(by exact st.rs 1),st.chg,none,none,none,0,0,0,[],[],[],(by exact st.rs 2),qC6,zL3,zL3,Nw.nil⟩
theorem gZ3 (c:PCtx) (hR:c.R=75) (hg:c.g=0) (a:Nat) (r:List Tok) (hr:r <:+ c.ts) (w:World) (hC:PCok c w) (hP:PAt c r w) (xb:Nat) (hX:w.heap[xb]?=some (.cells (jF8 (a:Int)).toArray 67 (0,0))) (hne:c.pb≠xb) (hxn:c.n0≤xb) (dv:Value):qP5 Tryz.prog 248 [.pointer (some ⟨c.pb,0,none⟩),.pointer (some ⟨xb,0,none⟩),dv] w
    (gH7 c r (printP c.e a r) [c.pb,xb] w (fun s _ w'=>jI1 42 67 xb w.heap.size s w')) (gB4 c (printP c.e a r) [c.pb,xb] w):=by
 refine zN0 [_,_,_] func248 rfl ntmps248 rfl ?_;obtain⟨w0,rfl⟩:∃ w0,w0=w:=⟨_,rfl⟩
 have hP':=hP;dsimp only [PAt,zO3] at hP;have st:=St.of2 [c.pb,xb] hP hX hne;have KC:∀ {w'},Chg [c.pb,xb] w0 w'→PCok c w':=fun ch=>hC.k2 ch hxn
 have h20:=hC.len;have hl:=zB6 hr;have hs:=printP.eq_1 c.e a r;refine a5 ?_;refine zA3 (zD1 [_,_] rfl rfl call49 rfl (qM7 c hR hg r hr _ (KC st.chg) (by exact st.rs 0)) (by rintro _ w' ⟨f,hf,rfl,ch⟩ a ha;exact And.intro ha (Or.inr ⟨_,rfl,f,by rw [hs,hf],rfl,st.chg.trans (ch.mono (by simp))⟩)) ?_);rintro _ w ⟨x,r1,hx,hsfr1,hlnr1,hP1,cw,ox,cx,Sx,rfl,hQ,hN⟩;have hNSx:=hN.le st.chg.size;replace st:=St.prsT (b:=c.pb) st 0 rfl cw (.inl (.head _)) hP1 (zF9 hQ) hN.2;rw [hx] at hs;dsimp only at hs;have hr1:=hsfr1.trans hr;refine zA3 (zI4 (l:=[_,_,_,_,_,_]) st rfl rfl rfl rfl qU40 qZ42 rfl rfl rfl qV42 ?_);intro b10 w hb10 st;have hE:=qE7 (st.res (i:=0) rfl) (st.res (i:=1) rfl).1;have hNe:Nw w0.heap.size (b10::Sx):=Nw.app (S:=[b10]) ⟨by simp,by simpa using hb10⟩ hNSx (fun b hb hb'=>st.ne (i:=0) (j:=1) (by decide) rfl rfl b hb hb')
 replace st:=st.join (q:=.tree (b10::Sx) fun w=>ExR 42 w (some ⟨b10,0,none⟩) 1 [x] (b10::Sx)) (fun k hk=>by
   rcases List.mem_cons.1 hk with rfl|hk
   · exact .inl (.head _)
   · exact .inr hk) (zF9 hE)
 refine a1 ?_;refine vy (zC3 rfl qU67 rfl rfl qZ64 rfl) ?_;refine zA3 (est st 2 qZ64 ?_);intro w st;refine a1 ?_;refine yfz 3 qU67 qZ40 ?_;refine zA3 (est st 2 qZ40 ?_);intro w st;refine a4 ?_;refine zA3 (zI4 (l:=[_]) st rfl rfl rfl rfl qU50 qZ9 rfl rfl rfl qV9 ?_);intro b16 w hb16 st;refine zA3 (zD1 [_,_] rfl rfl call145 rfl (zL7 c [[59]] (by simp) _ _ _ _ rfl r1 hr1 _ (KC st.chg) (by exact st.rs 2) hR (st.res (i:=0) rfl) (by exact st.bne 0 2 (by decide) rfl rfl)) (by rintro _ w' ⟨f,hf,rfl,ch⟩ a ha;rw [zE7] at hf;exact And.intro ha (Or.inr ⟨_,rfl,f,by rw [hs,hf],rfl,st.chg.trans (ch.mono (by simp))⟩)) ?_);rintro _ w ⟨r2,hx,hsfr2,hlnr2,hP1,cw⟩;rw [zE7] at hx;rw [hx] at hs;dsimp only at hs;replace st:=St.prs (b:=c.pb) st 2 rfl cw (.inl (.head _)) hP1;have hr2:=hsfr2.trans hr1;refine a1 ?_;refine zD4 (.inr rfl) results248 ?_;refine .inl ⟨_,rfl,?_⟩;exact⟨_,r2,hs,hsfr2.trans hsfr1,by simp at hlnr2;omega,(by exact st.rs 2),st.chg,some ⟨b10,0,none⟩,none,none,1,0,0,b10::Sx,[],[],(by exact st.rs 3),(by exact(st.res (i:=1) rfl).1),zL3,zL3,by simpa using hNe⟩
set_option maxHeartbeats 1000000 in
theorem qX5 (c:PCtx) (hR:c.R=75) (hg:c.g=0) (a:Nat) (r:List Tok) (hr:r <:+ c.ts) (w:World) (hC:PCok c w) (hP:PAt c r w) (xb:Nat) (hX:w.heap[xb]?=some (.cells (jF8 (a:Int)).toArray 67 (0,0))) (hne:c.pb≠xb) (hxn:c.n0≤xb):qP5 Tryz.prog 231 [.pointer (some ⟨c.pb,0,none⟩),.pointer (some ⟨xb,0,none⟩)] w
    (gH7 c r (zK9 c.e a r) [c.pb,xb] w (fun s _ w'=>jI1 42 67 xb w.heap.size s w')) (gB4 c (zK9 c.e a r) [c.pb,xb] w):=by
 refine zN0 [_,_] func231 rfl ntmps231 rfl ?_;obtain⟨w0,rfl⟩:∃ w0,w0=w:=⟨_,rfl⟩
 have hP':=hP;dsimp only [PAt,zO3] at hP;have st:=St.of2 [c.pb,xb] hP hX hne;have KC:∀ {w'},Chg [c.pb,xb] w0 w'→PCok c w':=fun ch=>hC.k2 ch hxn
 have h20:=hC.len;have hl:=zB6 hr;have hs:=kC4 c.e a r;refine a5 ?_;refine zA3 (zD1 [_] rfl rfl call146 rfl (qG6 c hR r hr _ (KC st.chg) (by exact st.rs 0)) (by rintro _ w' ⟨f,hf,rfl,ch⟩ a ha;exact And.intro ha (Or.inr ⟨_,rfl,f,by rw [hs,hf],rfl,st.chg.trans (ch.mono (by simp))⟩)) ?_);rintro _ w ⟨t,r1,hx,hsf,hln,hP1,cw,rfl⟩;replace st:=St.prs (b:=c.pb) st 0 rfl cw (.inl (.head _)) hP1;rw [hx] at hs;dsimp only at hs;have hr1:=hsf.trans hr;have hsfr1:=hsf;have hlnr1:=hln;refine vy (gK2 rfl qU118 rfl rfl qA9 rfl) ?_;refine a1 ?_;refine vy (zC3 rfl qU67 rfl rfl qZ64 rfl) ?_;refine zA3 (est st 1 qZ64 ?_);intro w st;refine a1 ?_;refine yfz 1 qU67 qZ9 ?_;refine zA3 (est st 1 qZ9 ?_);intro w st;refine a5 ?_;refine zA3 (zI4 (l:=[_]) st rfl rfl rfl rfl qU50 qZ9 rfl rfl rfl qV9 ?_);intro b14 w hb14 st;refine zA3 (zD1 [_,_] rfl rfl call145 rfl (zL7 c [[61]] (by simp) _ _ _ _ rfl r1 hr1 _ (KC st.chg) (by exact st.rs 1) hR (st.res (i:=0) rfl) (by exact st.bne 0 1 (by decide) rfl rfl)) (by rintro _ w' ⟨f,hf,rfl,ch⟩ a ha;rw [zE7] at hf;exact And.intro ha (Or.inr ⟨_,rfl,f,by rw [hs,hf],rfl,st.chg.trans (ch.mono (by simp))⟩)) ?_);rintro _ w ⟨r2,hx,hsfr2,hlnr2,hP1,cw⟩;rw [zE7] at hx;rw [hx] at hs;dsimp only at hs;replace st:=St.prs (b:=c.pb) st 1 rfl cw (.inl (.head _)) hP1;have hr2:=hsfr2.trans hr1;refine a6 ?_;refine zA3 (zA1 [_,_] rfl rfl call86 rfl (zO5 c zY5 r2 hr2 _ (KC st.chg) (by exact st.rs 1)) ?_);rintro _ w ⟨rfl,hP1,cw⟩;replace st:=St.prs (b:=c.pb) st 1 rfl cw (.inl (.head _)) hP1;refine a3 ?_;refine vif ?_ ?_;intro hc18;have hF:isT zY5 r2=false:=by simpa using hc18
 simp only [hF,Bool.false_eq_true,if_false] at st hs;refine a4 ?_;refine zA3 (zD1 [_,_] rfl rfl call49 rfl (qM7 c hR hg r2 hr2 _ (KC st.chg) (by exact st.rs 1)) (by rintro _ w' ⟨f,hf,rfl,ch⟩ a ha;exact And.intro ha (Or.inr ⟨_,rfl,f,by rw [hs,hf],rfl,st.chg.trans (ch.mono (by simp))⟩)) ?_);rintro _ w ⟨x,r3,hx,hsfr3,hlnr3,hP1,cw,ox,cx,Sx,rfl,hQ,hN⟩;have hNSx:=hN.le st.chg.size;replace st:=St.prsT (b:=c.pb) st 1 rfl cw (.inl (.head _)) hP1 (zF9 hQ) hN.2;rw [hx] at hs;dsimp only at hs;have hr3:=hsfr3.trans hr2;refine zA3 (zI4 (l:=[_,_,_,_,_,_]) st rfl rfl rfl rfl qU40 qZ42 rfl rfl rfl qV42 ?_);intro b22 w hb22 st;have hE:=qE7 (st.res (i:=0) rfl) (st.res (i:=1) rfl).1;have hNe:Nw w0.heap.size (b22::Sx):=Nw.app (S:=[b22]) ⟨by simp,by simpa using hb22⟩ hNSx (fun b hb hb'=>st.ne (i:=0) (j:=1) (by decide) rfl rfl b hb hb')
 replace st:=st.join (q:=.tree (b22::Sx) fun w=>ExR 42 w (some ⟨b22,0,none⟩) 1 [x] (b22::Sx)) (fun k hk=>by
   rcases List.mem_cons.1 hk with rfl|hk
   · exact .inl (.head _)
   · exact .inr hk) (zF9 hE)
 refine a1 ?_;refine yfz 3 qU67 qZ40 ?_;refine zA3 (est st 3 qZ40 ?_);intro w st;refine a5 ?_;refine zA3 (zI4 (l:=[_]) st rfl rfl rfl rfl qU50 qZ9 rfl rfl rfl qV9 ?_);intro b26 w hb26 st;refine zA3 (zD1 [_,_] rfl rfl call145 rfl (zL7 c [[59]] (by simp) _ _ _ _ rfl r3 hr3 _ (KC st.chg) (by exact st.rs 3) hR (st.res (i:=0) rfl) (by exact st.bne 0 3 (by decide) rfl rfl)) (by rintro _ w' ⟨f,hf,rfl,ch⟩ a ha;rw [zE7] at hf;exact And.intro ha (Or.inr ⟨_,rfl,f,by rw [hs,hf],rfl,st.chg.trans (ch.mono (by simp))⟩)) ?_);rintro _ w ⟨r4,hx,hsfr4,hlnr4,hP1,cw⟩;rw [zE7] at hx;rw [hx] at hs;dsimp only at hs;replace st:=St.prs (b:=c.pb) st 3 rfl cw (.inl (.head _)) hP1;have hr4:=hsfr4.trans hr3;refine a4 ?_;refine zD4 (.inl rfl) results231 ?_;refine .inl ⟨_,rfl,?_⟩;exact⟨_,r4,hs,hsfr4.trans (hsfr3.trans (hsfr2.trans hsfr1)),by simp at hlnr4 hlnr2;omega,(by exact st.rs 3),st.chg,some ⟨b22,0,none⟩,none,none,1,0,0,b22::Sx,[],[],(by exact st.rs 4),(by exact(st.res (i:=1) rfl).1),zL3,zL3,by simpa using hNe⟩;intro hc18;have hT:isT zY5 r2=true:=by simpa using hc18
 simp only [hT,if_true] at st hs;have ht:=zC2 (zI5 hT);have hr3:=zM7 hr2;refine a6 ?_;refine vy (zC3 rfl qU67 rfl rfl qZ64 rfl) ?_;refine zA3 (est st 2 qZ64 ?_);intro w st;refine a5 ?_;refine zA3 (zI4 (l:=[_]) st rfl rfl rfl rfl qU50 qZ9 rfl rfl rfl qV9 ?_);intro b32 w hb32 st;refine zA3 (zD1 [_,_] rfl rfl call145 rfl (zL7 c [[40]] (by simp) _ _ _ _ rfl r2.tail hr3 _ (KC st.chg) (by exact st.rs 2) hR (st.res (i:=0) rfl) (by exact st.bne 0 2 (by decide) rfl rfl)) (by rintro _ w' ⟨f,hf,rfl,ch⟩ a ha;rw [zE7] at hf;exact And.intro ha (Or.inr ⟨_,rfl,f,by rw [hs,hf],rfl,st.chg.trans (ch.mono (by simp))⟩)) ?_);rintro _ w ⟨r4,hx,hsfr4,hlnr4,hP1,cw⟩;rw [zE7] at hx;rw [hx] at hs;dsimp only at hs;replace st:=St.prs (b:=c.pb) st 2 rfl cw (.inl (.head _)) hP1;have hr4:=hsfr4.trans hr3;refine a6 ?_;refine zA3 (zD1 [_] rfl rfl call146 rfl (qG6 c hR r4 hr4 _ (KC st.chg) (by exact st.rs 2)) (by rintro _ w' ⟨f,hf,rfl,ch⟩ a ha;exact And.intro ha (Or.inr ⟨_,rfl,f,by rw [hs,hf],rfl,st.chg.trans (ch.mono (by simp))⟩)) ?_);rintro _ w ⟨t2,r5,hx,hsf,hln,hP1,cw,rfl⟩;replace st:=St.prs (b:=c.pb) st 2 rfl cw (.inl (.head _)) hP1;rw [hx] at hs;dsimp only at hs;have hr5:=hsf.trans hr4;have hsfr5:=hsf;have hlnr5:=hln;refine vy (gK2 rfl qU118 rfl rfl qA9 rfl) ?_;refine a1 ?_;refine yfz 2 qU67 qZ9 ?_;refine zA3 (est st 3 qZ9 ?_);intro w st;refine a5 ?_;refine zA3 (zI4 (l:=[_]) st rfl rfl rfl rfl qU50 qZ9 rfl rfl rfl qV9 ?_);intro b41 w hb41 st;refine zA3 (zD1 [_,_] rfl rfl call145 rfl (zL7 c [[44]] (by simp) _ _ _ _ rfl r5 hr5 _ (KC st.chg) (by exact st.rs 3) hR (st.res (i:=0) rfl) (by exact st.bne 0 3 (by decide) rfl rfl)) (by rintro _ w' ⟨f,hf,rfl,ch⟩ a ha;rw [zE7] at hf;exact And.intro ha (Or.inr ⟨_,rfl,f,by rw [hs,hf],rfl,st.chg.trans (ch.mono (by simp))⟩)) ?_);rintro _ w ⟨r8,hx,hsfr8,hlnr8,hP1,cw⟩;rw [zE7] at hx;rw [hx] at hs;dsimp only at hs;replace st:=St.prs (b:=c.pb) st 3 rfl cw (.inl (.head _)) hP1;have hr8:=hsfr8.trans hr5;refine a6 ?_;refine zA3 (zD1 [_,_] rfl rfl call49 rfl (qM7 c hR hg r8 hr8 _ (KC st.chg) (by exact st.rs 3)) (by rintro _ w' ⟨f,hf,rfl,ch⟩ a ha;exact And.intro ha (Or.inr ⟨_,rfl,f,by rw [hs,hf],rfl,st.chg.trans (ch.mono (by simp))⟩)) ?_);rintro _ w ⟨x,r6,hx,hsfr6,hlnr6,hP1,cw,ox,cx,Sx,rfl,hQ,hN⟩;have hNSx:=hN.le st.chg.size;replace st:=St.prsT (b:=c.pb) st 3 rfl cw (.inl (.head _)) hP1 (zF9 hQ) hN.2;rw [hx] at hs;dsimp only at hs;have hr6:=hsfr6.trans hr8;refine zA3 (zI4 (l:=[_,_,_,_,_,_]) st rfl rfl rfl rfl qU40 qZ42 rfl rfl rfl qV42 ?_);intro b46 w hb46 st;have hE:=qE7 (st.res (i:=0) rfl) (st.res (i:=1) rfl).1
 have hNe:Nw w0.heap.size (b46::Sx):=Nw.app (S:=[b46]) ⟨by simp,by simpa using hb46⟩ hNSx (fun b hb hb'=>st.ne (i:=0) (j:=1) (by decide) rfl rfl b hb hb')
 replace st:=st.join (q:=.tree (b46::Sx) fun w=>ExR 42 w (some ⟨b46,0,none⟩) 1 [x] (b46::Sx)) (fun k hk=>by
   rcases List.mem_cons.1 hk with rfl|hk
   · exact .inl (.head _)
   · exact .inr hk) (zF9 hE)
 refine a1 ?_;refine yfz 3 qU67 qZ40 ?_;refine zA3 (est st 5 qZ40 ?_);intro w st;refine a4 ?_;refine zA3 (zY7 (l:=[str [41],str [59]]) (E:=9) st [(0,_),(1,_)] rfl rfl rfl (fun w=>by simp [Instr.buildSlice,run_underlying qU50,qZ9,qV9,Instr.fill,newRow,newObj,Sem.run,go_sem]) ?_);intro b50 w hb50 st;refine zA3 (zD1 [_,_] rfl rfl call145 rfl (zL7 c [[41],[59]] (by simp) _ _ _ _ rfl r6 hr6 _ (KC st.chg) (by exact st.rs 5) hR (st.res (i:=0) rfl) (by exact st.bne 0 5 (by decide) rfl rfl)) (by rintro _ w' ⟨f,hf,rfl,ch⟩ a ha;exact And.intro ha (Or.inr ⟨_,rfl,f,by rw [hs,hf],rfl,st.chg.trans (ch.mono (by simp))⟩)) ?_);rintro _ w ⟨r7,hx,hsfr7,hlnr7,hP1,cw⟩;rw [hx] at hs;dsimp only at hs;replace st:=St.prs (b:=c.pb) st 5 rfl cw (.inl (.head _)) hP1;have hr7:=hsfr7.trans hr6;refine a1 ?_;refine zD4 (.inr rfl) results231 ?_;refine .inl ⟨_,rfl,?_⟩;exact⟨_,r7,hs,hsfr7.trans (hsfr6.trans (hsfr8.trans (hsfr5.trans (hsfr4.trans ((List.tail_suffix _).trans (hsfr2.trans hsfr1)))))),by simp at hlnr7 hlnr8 hlnr4 hlnr2;omega,(by exact st.rs 5),st.chg,some ⟨b46,0,none⟩,none,none,1,0,0,b46::Sx,[],[],(by exact st.rs 6),(by exact(st.res (i:=1) rfl).1),zL3,zL3,by simpa using hNe⟩
end Go.Proofs.YtnmhlpnapgojjaaGreatDoor.Pq
