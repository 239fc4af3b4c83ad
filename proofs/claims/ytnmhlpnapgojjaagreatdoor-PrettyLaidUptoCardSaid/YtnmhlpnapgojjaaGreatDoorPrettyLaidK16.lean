/- A part of the proof: contracts of functions and plain laws; each theorem says its own conditions. -/
import Derived.Test.YtnmhlpnapgojjaaGreatDoorPrettyLaidAl
import Derived.Test.YtnmhlpnapgojjaaGreatDoorPrettyLaidK13
import Derived.Test.YtnmhlpnapgojjaaGreatDoorPrettyLaidK15
import Derived.Test.YtnmhlpnapgojjaaGreatDoorPrettyLaidK11
import Derived.Test.YtnmhlpnapgojjaaGreatDoorPrettyLaidK12
import Derived.Test.YtnmhlpnapgojjaaGreatDoorPrettyLaidK3
import Derived.Test.YtnmhlpnapgojjaaGreatDoorPrettyLaidK2
import Derived.Test.YtnmhlpnapgojjaaGreatDoorPrettyLaidK1
set_option linter.unusedVariables false
set_option linter.unusedSimpArgs false
/- The tokens of a tree,and that they are parsed as the tree: expressions. -/
namespace ParS
open Sx LexS
section
variable (k op wd:Int) (nm:List UInt8) (kids:List Ex) (a:Int)
theorem exk:(Ex.mk k op wd nm kids a).k=k:=rfl
theorem jJ7:(Ex.mk k op wd nm kids a).op=op:=rfl
theorem jI6:(Ex.mk k op wd nm kids a).wd=wd:=rfl
theorem jL:(Ex.mk k op wd nm kids a).nm=nm:=rfl
theorem gL1:(Ex.mk k op wd nm kids a).kids=kids:=rfl
end
theorem gN4 (u:List Tok→PR Ex) (hu:kA6 u):∀ (n:Nat) (r:List Tok) (l:List gO1) (r':List Tok),zN5 u n r=.ok (l,r')→r'.length≤r.length
  | 0,r,l,r',h=>by simp [zN5] at h
  | n+1,r,l,r',h=>by
    simp only [zN5] at h
    cases hop:opT (here r) with
    | none=>rw [hop] at h;cases h;exact Nat.le_refl _
    | some op=>
      rw [hop] at h
      simp only at h
      cases hx:u r.tail with
      | error f=>rw [hx] at h;cases h
      | ok p=>
        obtain⟨x,r1⟩:=p
        rw [hx] at h
        simp only at h
        cases hf:zN5 u n r1 with
        | error f=>rw [hf] at h;cases h
        | ok q=>
          obtain⟨l1,r2⟩:=q
          rw [hf] at h
          cases h
          have:=gN4 u hu n r1 l1 _ hf
          have:=hu _ _ _ hx
          have:=zC2 (qS1 hop)
          omega
theorem gE {u:List Tok→PR Ex} (hu:kA6 u):kA6 (zX4 u):=by
  intro r x r' h
  unfold zX4 at h
  cases hx:u r with
  | error f=>rw [hx] at h;cases h
  | ok p=>
    obtain⟨y,r1⟩:=p
    rw [hx] at h
    simp only at h
    cases hf:zN5 u (r1.length+1) r1 with
    | error f=>rw [hf] at h;cases h
    | ok q=>
      obtain⟨l1,r2⟩:=q
      rw [hf] at h
      cases h
      have:=gN4 u hu _ _ _ _ hf
      have:=hu _ _ _ hx
      omega
theorem gJ1 (e:Nat):kA6 (zV1 e):=by
  intro r x r' h
  unfold zV1 at h
  split at h
  · rename_i hk;cases h;exact zC2 (zN7 hk (by decide))
  · split at h
    · rename_i hk;cases h;exact zC2 (zN7 hk (by decide))
    · cases h
theorem zI3 (e:Nat):∀ m,kA6 (zC1 e m)
  | 0=>by
    intro r x r' h
    simp only [zC1] at h
    split at h
    · cases h
    · exact gJ1 e r x r' h
  | m+1=>by
    intro r x r' h
    simp only [zC1] at h
    split at h
    · rename_i hi
      have h0:=zC2 (qU6 hi)
      split at h
      · cases hx:zX4 (zC1 e m) r.tail with
        | error f=>rw [hx] at h;cases h
        | ok p=>
          obtain⟨y,r1⟩:=p
          rw [hx] at h
          simp only at h
          have h1:=gE (zI3 e m) _ _ _ hx
          cases hw:want e [41] r1 with
          | error f=>rw [hw] at h;cases h
          | ok r2=>
            rw [hw] at h
            cases h
            obtain⟨h2,rfl⟩:=qF hw
            have:=zC2 (zI5 h2)
            omega
      · cases hx:zC1 e m r.tail with
        | error f=>rw [hx] at h;cases h
        | ok p=>
          obtain⟨y,r1⟩:=p
          rw [hx] at h
          cases h
          have h1:=zI3 e m _ _ _ hx
          omega
    · exact gJ1 e r x r' h
theorem qO7 (e m:Nat):kA6 (zN8 e m):=gE (zI3 e m)
def sgT (s:List UInt8):Tok:=⟨4,s,0,0⟩
def nmT (s:List UInt8):Tok:=⟨1,s,0,0⟩
def wdT (s:List UInt8):Tok:=⟨2,s,0,0⟩
def nuT (n:Nat):Tok:=⟨3,dec n,n,0⟩
def gC5 (b:Bool) (l:List Tok):List Tok:=if b=true then sgT [40]::(l++[sgT [41]]) else l
def tkE:Ex→List Tok
  | .mk k op wd nm kids a=>if k=1 then [nuT wd.toNat] else if k=2 then [nmT nm] else if k=3 then sgT (qA0 op)::(match kids with | [x]=>gC5 (decide (x.k=4)) (tkE x)|_=>[])
    else (match kids with | [x,y]=>gC5 (inn op x false) (tkE x)++(sgT (qA0 op)::gC5 (inn op y true) (tkE y))|_=>[])
abbrev zE:Ex→Ex:=trE idS (fun _=>0)
theorem zO1 (t:Tok) (l:List Tok):here (t::l)=t:=rfl
theorem zX6 (s x:List UInt8) (l:List Tok):isT s (sgT x::l)=decide (x=s):=by rw [Bool.eq_iff_iff];simp [isT,here,sgT] <;> exact decide_eq_true_iff
theorem zZ5 (s x:List UInt8) (l:List Tok):isT s (wdT x::l)=decide (x=s):=by rw [Bool.eq_iff_iff];simp [isT,here,wdT] <;> exact decide_eq_true_iff
theorem qX (s x:List UInt8) (l:List Tok):isT s (nmT x::l)=false:=by simp [isT,here,nmT]
theorem gW4 (s:List UInt8) (n:Nat) (l:List Tok):isT s (nuT n::l)=false:=by simp [isT,here,nuT]
theorem kF7 {k:Int} (h:zP9 k=true):∃ op:Nat,opT (sgT (qA0 k))=some op∧(op:Int)=k:=by
  simp only [zP9,decide_eq_true_eq] at h
  obtain⟨m,rfl⟩:∃ m:Nat,k=(m:Int):=⟨k.toNat,by omega⟩
  have key:∀ m:Nat,m<17→0<m→zN9 (qA0 (m:Int))=some m:=by decide
  exact⟨m,by simp only [opT,sgT,if_true];exact key m (by omega) (by omega),rfl⟩
theorem kR0 (l:List Tok):opT (here (sgT [41]::l))=none:=by show opT (sgT [41])=none;decide
theorem qH7 (u:List Tok→PR Ex) (n:Nat) (lv:Int) (x:Ex) (Z:List Tok) (h:∀ o,opT (here Z)=some o→zI8 (o:Int)<lv):zK8 u (n+1) lv x Z=.ok (x,Z):=by
  simp only [zK8]
  cases hop:opT (here Z) with
  | none=>rfl
  | some op=>simp only [h op hop,if_true]
def jN (x:Ex) (Z:List Tok):Prop:=x.k=4→∀ o,opT (here Z)=some o→zI8 (o:Int)≤zI8 x.op
section
variable {e:Nat}
theorem kZ0 {m:Nat} {x:Ex} {l Z:List Tok} (hx:zN8 e m (l++(sgT [41]::Z))=.ok (x,sgT [41]::Z)):zC1 e (m+1) (sgT [40]::(l++[sgT [41]])++Z)=.ok (x,Z):=by
  have e1:sgT [40]::(l++[sgT [41]])++Z=sgT [40]::(l++(sgT [41]::Z)):=by simp
  rw [e1]
  simp only [zC1]
  have h1:zF (sgT [40]::(l++(sgT [41]::Z)))=true:=by simp [zF,zX6]
  rw [if_pos h1,zO1,if_pos (by rfl)]
  have h2:zX4 (zC1 e m) (l++(sgT [41]::Z))=.ok (x,sgT [41]::Z):=hx
  simp only [List.tail_cons,h2]
  have h3:want e [41] (sgT [41]::Z)=.ok Z:=by rw [qU4 (by simp [zX6])];rfl
  rw [h3]
theorem kT2 {x:Int} (h:0≤x):shw x=dec x.toNat:=by
  unfold shw;rw [if_neg (by omega)];congr 1;omega
theorem zR2 {x:Ex} {d:Nat} (h:zB9 x d=true):d≤64:=(rightE_iff.1 h).1
theorem lf (m n n':Nat) (lv:Int) (x:Ex) (Z:List Tok) (h:Z.length<n) (h':Z.length<n'):zK8 (zC1 e m) n lv x Z=zK8 (zC1 e m) n' lv x Z:=
  qH1 _ (zI3 e m) (qF5 _ (zI3 e m)) n n' lv x Z h h'
theorem gV {m:Nat} {k:Int} (hk:qI9 k=true) {r:List Tok} {x:Ex} {Z:List Tok} (h:zC1 e m r=.ok (x,Z)):zC1 e (m+1) (sgT (qA0 k)::r)=.ok (.mk 3 k 0 [] [x] 0,Z):=by
  simp only [qI9,decide_eq_true_eq] at hk
  rcases hk with rfl|rfl
  · have e1:qA0 17=[45]:=by decide
    simp only [zC1,e1]
    rw [if_pos (by simp [zF,zX6]),if_neg (by simp [zO1,sgT])]
    simp only [List.tail_cons,h,zO1,sgT] <;> rfl
  · have e1:qA0 18=[33]:=by decide
    simp only [zC1,e1]
    rw [if_pos (by simp [zF,zX6]),if_neg (by simp [zO1,sgT])]
    simp only [List.tail_cons,h,zO1,sgT] <;> rfl
theorem kX1:∀ (n:Nat) (x:Ex),SizeOf.sizeOf x=n→∀ d,zB9 x d=true→∀ Z:List Tok,
    (x.k≠4→zC1 e (64 - d) (tkE x++Z)=.ok (zE x,Z))∧
    (∀ lv:Int,(x.k=4→lv≤zI8 x.op)→jN x Z→zV0 (zC1 e (64 - d)) lv (tkE x++Z)=zK8 (zC1 e (64 - d)) (Z.length+1) lv (zE x) Z):=by
  intro n
  refine Nat.strongRecOn n fun n ih=>?_
  intro x hn d hr Z
  have sub:∀ y,y∈x.kids→∀ d',zB9 y d'=true→∀ Z':List Tok,
      (y.k≠4→zC1 e (64 - d') (tkE y++Z')=.ok (zE y,Z'))∧
      (∀ lv:Int,(y.k=4→lv≤zI8 y.op)→jN y Z'→zV0 (zC1 e (64 - d')) lv (tkE y++Z')=zK8 (zC1 e (64 - d')) (Z'.length+1) lv (zE y) Z'):=fun y hy d' hr' Z'=>by
    have:=qC9 hy
    exact ih _ (by omega) y rfl d' hr' Z'
  have inpar:∀ y,y∈x.kids→∀ d',zB9 y (d'+1)=true→∀ Z':List Tok,zC1 e (64 - d') (sgT [40]::(tkE y++[sgT [41]])++Z')=.ok (zE y,Z'):=fun y hy d' hr' Z'=>by
    have hle:=zR2 hr'
    have e1:64 - d'=(64 - (d'+1))+1:=by omega
    rw [e1]
    refine kZ0 ?_
    have h1:=(sub y hy _ hr' (sgT [41]::Z')).2 1 (fun hk=>?_) (fun hk o ho=>by rw [kR0] at ho;cases ho)
    · rw [zW5 _ (zI3 e _)] at h1
      show zX4 (zC1 e (64 - (d'+1))) _=_
      rw [h1,qH7]
      intro o ho;rw [kR0] at ho;cases ho
    · rcases (rightE_iff.1 hr').2 with h|h|h|h
      · have:=h.1;omega
      · have:=h.1;omega
      · have:=h.1;omega
      · obtain⟨_,htwo,_⟩:=h
        obtain⟨op,hop,e2⟩:=kF7 htwo
        have:=gI8 hop
        rw [e2] at this;exact this
  have hA:x.k≠4→zC1 e (64 - d) (tkE x++Z)=.ok (zE x,Z):=by
    intro h4
    have hcase:=(rightE_iff.1 hr).2
    have hd:=zR2 hr
    cases x with
    | mk k op wd nm kids a=>
    simp only [exk,jJ7,jI6,jL,gL1] at hcase h4 sub inpar
    rcases hcase with ⟨rfl,h1,rfl,rfl,rfl⟩|⟨rfl,h1,rfl,rfl,rfl⟩|h|h
    · have e1:tkE (.mk 1 0 wd [] [] a)++Z=nuT wd.toNat::Z:=by simp [tkE]
      rw [e1]
      have hl:zV1 e (nuT wd.toNat::Z)=.ok (zE (.mk 1 0 wd [] [] a),Z):=by
        simp only [zV1,zO1,nuT,if_true,zE,trE,zY2,idS,List.tail_cons]
        rw [Int.toNat_of_nonneg h1];rfl
      cases hm:64 - d with
      | zero=>simp only [zC1];rw [if_neg (by simp [zF,gW4])];exact hl
      | succ m=>simp only [zC1];rw [if_neg (by simp [zF,gW4])];exact hl
    · have e1:tkE (.mk 2 0 0 nm [] a)++Z=nmT nm::Z:=by simp [tkE]
      rw [e1]
      have hl:zV1 e (nmT nm::Z)=.ok (zE (.mk 2 0 0 nm [] a),Z):=by
        simp only [zV1,zO1,nmT,zE,trE,zY2,idS,List.tail_cons];simp
      cases hm:64 - d with
      | zero=>simp only [zC1];rw [if_neg (by simp [zF,qX])];exact hl
      | succ m=>simp only [zC1];rw [if_neg (by simp [zF,qX])];exact hl
    · obtain⟨rfl,hone,rfl,rfl,y,rfl,hy⟩:=h
      have e1:tkE (.mk 3 op 0 [] [y] a)++Z=sgT (qA0 op)::(gC5 (decide (y.k=4)) (tkE y)++Z):=by simp [tkE]
      rw [e1]
      have hle:=zR2 hy
      by_cases hy4:y.k=4
      · rw [if_pos hy4] at hy hle
        have e2:64 - d=(64 - (d+1))+1:=by omega
        rw [e2]
        simp only [gC5,hy4,decide_true,if_true]
        have:=gV (e:=e) hone (inpar y (.head _) (d+1) hy Z)
        rw [this];simp only [zE,trE,zY2,idS]
      · rw [if_neg hy4] at hy hle
        have e2:64 - d=(64 - (d+1))+1:=by omega
        rw [e2]
        simp only [gC5,hy4,decide_false,Bool.false_eq_true,if_false]
        have:=gV (e:=e) hone ((sub y (.head _) (d+1) hy Z).1 hy4)
        rw [this];simp only [zE,trE,zY2,idS]
    · exact absurd h.1 h4
  refine⟨hA,fun lv hlv hst=>?_⟩
  by_cases h4:x.k=4
  · have hcase:=(rightE_iff.1 hr).2
    have hd:=zR2 hr
    cases x with
    | mk k op wd nm kids a=>
    simp only [exk,jJ7,jI6,jL,gL1] at hcase h4 sub inpar hlv
    rcases hcase with h|h|h|h
    · have:=h.1;omega
    · have:=h.1;omega
    · have:=h.1;omega
    · obtain⟨rfl,htwo,rfl,rfl,y,z,rfl,hy,hz⟩:=h
      change zB9 y (if inn op y false=true then d+1 else d)=true at hy
      change zB9 z (if inn op z true=true then d+1 else d)=true at hz
      have hlv:=hlv rfl
      obtain⟨o,ho,eo⟩:=kF7 htwo
      have e1:tkE (.mk 4 op 0 [] [y,z] a)++Z=gC5 (inn op y false) (tkE y)++(sgT (qA0 op)::(gC5 (inn op z true) (tkE z)++Z)):=by simp [tkE]
      rw [e1]
      obtain⟨R,hR⟩:∃ R,R=gC5 (inn op z true) (tkE z)++Z:=⟨_,rfl⟩
      have hsec:∀ n',R.length<n'+1→∃ r1 y1,zC1 e (64 - d) R=.ok (y1,r1)∧zK8 (zC1 e (64 - d)) n' (zI8 op+1) y1 r1=.ok (zE z,Z)∧Z.length<R.length:=by
        intro n' hn'
        have stop1:∀ o',opT (here Z)=some o'→zI8 (o':Int)<zI8 op+1:=fun o' ho'=>by
          have:=hst rfl o' ho'
          simp only [Ex.op] at this;omega
        cases hin:inn op z true with
        | true=>
          rw [hin] at hz hR
          simp only [if_true] at hz
          have h1:=inpar z (.tail _ (.head _)) d hz Z
          have e2:R=sgT [40]::(tkE z++[sgT [41]])++Z:=by rw [hR];simp [gC5]
          have hlt:Z.length<R.length:=by rw [e2];simp;omega
          refine⟨Z,zE z,by rw [e2];exact h1,?_,hlt⟩
          obtain⟨n'',rfl⟩:∃ n'',n'=n''+1:=⟨n' - 1,by omega⟩
          exact qH7 _ _ _ _ _ stop1
        | false=>
          rw [hin] at hz hR
          simp only [Bool.false_eq_true,if_false] at hz
          have e2:R=tkE z++Z:=by rw [hR];simp [gC5]
          have hzl:z.k=4→zI8 op<zI8 z.op:=fun hk=>by
            unfold inn at hin
            simp only [hk,decide_true,Bool.true_and,Bool.or_eq_false_iff,decide_eq_false_iff_not] at hin
            omega
          have h1:=(sub z (.tail _ (.head _)) d hz Z).2 (zI8 op+1) (fun hk=>by have:=hzl hk;omega) (fun hk o' ho'=>by have:=hzl hk;have:=stop1 o' ho';omega)
          rw [qH7 _ _ _ _ _ stop1] at h1
          rw [← e2] at h1
          unfold zV0 at h1
          cases hu:zC1 e (64 - d) R with
          | error f=>rw [hu] at h1;cases h1
          | ok p=>
            obtain⟨y1,r1⟩:=p
            rw [hu] at h1
            simp only at h1
            have hg:=zI3 e _ _ _ _ hu
            have hZ:=qF5 _ (zI3 e _) _ _ _ _ _ _ h1
            refine⟨r1,y1,rfl,?_,by omega⟩
            rw [← h1]
            exact lf _ _ _ _ _ _ (by omega) (by omega)
      have hloop:∀ n',R.length<n'→zK8 (zC1 e (64 - d)) (n'+1) lv (zE y) (sgT (qA0 op)::R)=zK8 (zC1 e (64 - d)) (Z.length+1) lv (zE (.mk 4 op 0 [] [y,z] a)) Z:=by
        intro n' hn'
        obtain⟨r1,y1,h1,h2,h3⟩:=hsec n' (by omega)
        simp only [zK8,zO1,ho,List.tail_cons]
        rw [if_neg (by rw [eo];omega),h1]
        simp only
        rw [eo,h2]
        simp only
        rw [lf _ n' (Z.length+1) _ _ _ (by omega) (by omega)]
        simp only [gB2,sgT,eo,zE,trE,zY2,idS] <;> rfl
      rw [← hR]
      cases hin:inn op y false with
      | true=>
        rw [hin] at hy
        simp only [if_true] at hy
        have h1:=inpar y (.head _) d hy (sgT (qA0 op)::R)
        simp only [gC5,if_true]
        unfold zV0
        rw [h1]
        simp only
        exact hloop _ (by simp)
      | false=>
        rw [hin] at hy
        simp only [Bool.false_eq_true,if_false] at hy
        simp only [gC5,Bool.false_eq_true,if_false]
        have hyl:y.k=4→zI8 op≤zI8 y.op:=fun hk=>by
          unfold inn at hin
          simp only [hk,decide_true,Bool.true_and,Bool.or_eq_false_iff,decide_eq_false_iff_not] at hin
          omega
        have h1:=(sub y (.head _) d hy (sgT (qA0 op)::R)).2 lv (fun hk=>by have:=hyl hk;omega) (fun hk o' ho'=>by
          rw [zO1,ho] at ho';cases ho';rw [eo];exact hyl hk)
        rw [h1]
        exact hloop _ (by simp)
  · have h1:=hA h4
    unfold zV0
    rw [h1]
theorem kU4 {x:Ex} (hr:zB9 x 0=true) {Z:List Tok} (hZ:opT (here Z)=none):zN8 e 64 (tkE x++Z)=.ok (zE x,Z):=by
  have h1:=(kX1 (e:=e) _ x rfl 0 hr Z).2 1 (fun hk=>?_) (fun hk o ho=>by rw [hZ] at ho;cases ho)
  · rw [zW5 _ (zI3 e _)] at h1
    show zX4 (zC1 e (64 - 0)) _=_
    rw [h1,qH7]
    intro o ho;rw [hZ] at ho;cases ho
  · rcases (rightE_iff.1 hr).2 with h|h|h|h
    · have:=h.1;omega
    · have:=h.1;omega
    · have:=h.1;omega
    · obtain⟨_,htwo,_⟩:=h
      obtain⟨op,hop,e2⟩:=kF7 htwo
      have:=gI8 hop
      rw [e2] at this;exact this
end
end ParS
/- The reader that goes on when it has failed: what it computes,against the parser that stops. No program in sight. -/
namespace ParS
open Sx LexS
structure RS where
  r:List Tok
  f:Flt
def RS.ok (σ:RS):Prop:=σ.f.2=0
instance RS.decOk (σ:RS):Decidable σ.ok:=inferInstanceAs (Decidable (σ.f.2=0))
def zY8 (e k:Nat) (σ:RS):RS:=if σ.ok then ⟨σ.r,(atT e σ.r,k)⟩ else σ
def zC7 (s:List UInt8) (σ:RS):Bool:=decide σ.ok && isT s σ.r
def gB8 (s:List UInt8) (σ:RS):RS:=if zC7 s σ=true then ⟨σ.r.tail,σ.f⟩ else σ
def zF3 (e:Nat) (s:List UInt8) (σ:RS):RS:=if zC7 s σ=true then ⟨σ.r.tail,σ.f⟩ else zY8 e 2 σ
def qB5 (σ:RS):Bool:=decide σ.ok && decide ((here σ.r).kind=1)
def zQ (σ:RS):List UInt8:=if qB5 σ=true then (here σ.r).text else []
def zW4 (σ:RS):Nat:=if qB5 σ=true then (here σ.r).at_ else 0
def zJ5 (e:Nat) (σ:RS):RS:=if qB5 σ=true then ⟨σ.r.tail,σ.f⟩ else zY8 e 2 σ
def run {α:Type} (F:List Tok→PR α) (σ:RS):PR α:=if σ.ok then F σ.r else .error σ.f
def Done {α:Type} (res:PR α) (x:α) (σ':RS):Prop:=match res with
  | .ok (y,r')=>x=y∧σ'.r=r'∧σ'.f.2=0
  | .error f=>σ'.f=f∧f.2≠0
theorem zD3 {α:Type} {F:List Tok→PR α} {σ:RS} (h:σ.ok):run F σ=F σ.r:=if_pos h
theorem zF6 {α:Type} {F:List Tok→PR α} {σ:RS} (h:¬ σ.ok):run F σ=.error σ.f:=if_neg h
theorem Done.bad {α:Type} {F:List Tok→PR α} {σ:RS} (h:¬ σ.ok) (x:α):Done (run F σ) x σ:=by rw [zF6 h];exact⟨rfl,h⟩
theorem Done.bad' {α:Type} {F:List Tok→PR α} {σ σ':RS} (h:¬ σ.ok) (hf:σ'.f=σ.f) (x:α):Done (run F σ) x σ':=by rw [zF6 h];exact⟨hf,h⟩
theorem Done.ret {α:Type} (x:α) (σ:RS):Done (run (fun r=>.ok (x,r)) σ) x σ:=by
  by_cases h:σ.ok
  · rw [zD3 h];exact⟨rfl,rfl,h⟩
  · exact .bad h x
theorem Done.bind {α β:Type} {F:List Tok→PR α} {G:α→List Tok→PR β} {σ σ1 σ2:RS} {x:α} {y:β} (h1:Done (run F σ) x σ1) (h2:Done (run (G x) σ1) y σ2) :
    Done (run (fun r=>match F r with | .error f=>.error f | .ok (a,r')=>G a r') σ) y σ2:=by
  by_cases h:σ.ok
  · rw [zD3 h] at h1 ⊢
    cases hF:F σ.r with
    | error f=>
      rw [hF] at h1
      obtain⟨e1,e2⟩:=h1
      rw [zF6 (by show ¬ σ1.f.2=0;rw [e1];exact e2)] at h2
      exact⟨h2.1.trans e1,e2⟩
    | ok p=>
      obtain⟨a,r'⟩:=p
      rw [hF] at h1
      obtain⟨rfl,rfl,e3⟩:=h1
      rw [zD3 e3] at h2
      exact h2
  · rw [zF6 h] at h1 ⊢
    obtain⟨e1,e2⟩:=h1
    rw [zF6 (by show ¬ σ1.f.2=0;rw [e1];exact e2)] at h2
    exact⟨h2.1.trans e1,e2⟩
theorem qC1 {e k:Nat} {σ:RS} (h:σ.ok):zY8 e k σ=⟨σ.r,(atT e σ.r,k)⟩:=if_pos h
theorem qB8 {e k:Nat} {σ:RS} (h:¬ σ.ok):zY8 e k σ=σ:=if_neg h
theorem zO8 {e k:Nat} {σ:RS} (hk:k≠0):¬ (zY8 e k σ).ok:=by
  by_cases h:σ.ok
  · rw [qC1 h];exact hk
  · rw [qB8 h];exact h
theorem gA5 {s:List UInt8} {σ:RS} (h:¬ σ.ok):zC7 s σ=false:=by simp [zC7,h]
theorem zG4 {s:List UInt8} {σ:RS} (h:σ.ok):zC7 s σ=isT s σ.r:=by simp [zC7,h]
theorem zC8 {s:List UInt8} {σ:RS} (h:zC7 s σ=true):σ.ok∧isT s σ.r=true:=by simpa [zC7] using h
theorem Done.of_fail {α:Type} {e k:Nat} (hk:k≠0) {F:List Tok→PR α} {σ σ':RS} {x:α} (h:σ.ok→F σ.r=ParS.fail e k σ.r) (hf:σ'.f=(zY8 e k σ).f):Done (run F σ) x σ':=by
  by_cases ho:σ.ok
  · rw [zD3 ho,h ho]
    rw [qC1 ho] at hf
    exact⟨hf,hk⟩
  · rw [qB8 ho] at hf;exact .bad' ho hf x
theorem Done.want {β:Type} {e:Nat} {s:List UInt8} {G:List Tok→PR β} {σ σ2:RS} {y:β} (h2:Done (run G (zF3 e s σ)) y σ2) :
    Done (run (fun r=>match ParS.want e s r with | .error f=>.error f | .ok r'=>G r') σ) y σ2:=by
  unfold zF3 at h2
  by_cases ht:zC7 s σ=true
  · rw [if_pos ht] at h2
    obtain⟨ho,hi⟩:=zC8 ht
    rw [zD3 ho]
    rw [zD3 (by exact ho)] at h2
    rw [qU4 hi];exact h2
  · rw [if_neg ht] at h2
    by_cases ho:σ.ok
    · rw [zD3 ho]
      rw [zG4 ho] at ht
      rw [qT4 (by simpa using ht)]
      rw [zF6 (zO8 (by decide)),qC1 ho] at h2
      exact h2
    · rw [qB8 ho,zF6 ho] at h2
      rw [zF6 ho];exact h2
theorem Done.ifT {β:Type} {s:List UInt8} {G1 G2:List Tok→PR β} {σ σ2:RS} {y:β} (ht:zC7 s σ=true) (h:Done (run G1 ⟨σ.r.tail,σ.f⟩) y σ2) :
    Done (run (fun r=>if isT s r=true then G1 r.tail else G2 r) σ) y σ2:=by
  obtain⟨ho,hi⟩:=zC8 ht
  rw [zD3 ho,if_pos hi]
  rw [zD3 (by exact ho)] at h
  exact h
theorem Done.ifF {β:Type} {s:List UInt8} {G1 G2:List Tok→PR β} {σ σ2:RS} {y:β} (ht:zC7 s σ=false) (h:Done (run G2 σ) y σ2) :
    Done (run (fun r=>if isT s r=true then G1 r.tail else G2 r) σ) y σ2:=by
  by_cases ho:σ.ok
  · rw [zD3 ho] at h ⊢
    rw [zG4 ho] at ht
    rw [if_neg (by simp [ht])];exact h
  · rw [zF6 ho] at h ⊢;exact h
theorem Done.congr {α:Type} {F G:List Tok→PR α} {σ σ':RS} {x:α} (e:∀ r,F r=G r) (h:Done (run F σ) x σ'):Done (run G σ) x σ':=by
  rw [show F=G from funext e] at h;exact h
theorem Done.at_ {α:Type} {F G:List Tok→PR α} {σ σ':RS} {x:α} (e:F σ.r=G σ.r) (h:Done (run F σ) x σ'):Done (run G σ) x σ':=by
  by_cases ho:σ.ok
  · rw [zD3 ho] at h ⊢;rw [← e];exact h
  · rw [zF6 ho] at h ⊢;exact h
theorem kK3 {s:List UInt8} {σ:RS}:(gB8 s σ).r <:+ σ.r:=by unfold gB8;split;exact List.tail_suffix _;exact List.suffix_refl _
theorem zU5 {e k:Nat} {σ:RS}:(zY8 e k σ).r=σ.r:=by unfold zY8;split <;> rfl
theorem wantR_suf {e:Nat} {s:List UInt8} {σ:RS}:(zF3 e s σ).r <:+ σ.r:=by
  unfold zF3;split
  · exact List.tail_suffix _
  · rw [zU5];exact List.suffix_refl _
theorem qB4 {e:Nat} {σ:RS}:(zJ5 e σ).r <:+ σ.r:=by
  unfold zJ5;split
  · exact List.tail_suffix _
  · rw [zU5];exact List.suffix_refl _
theorem qE8 {e:Nat} {s:List UInt8} {σ:RS} (h:¬ σ.ok):zF3 e s σ=σ:=by unfold zF3;rw [gA5 h,if_neg (by simp),qB8 h]
theorem zH6 {s:List UInt8} {σ:RS} (h:zC7 s σ=true):gB8 s σ=⟨σ.r.tail,σ.f⟩:=if_pos h
theorem zG9 {s:List UInt8} {σ:RS} (h:zC7 s σ=false):gB8 s σ=σ:=if_neg (by simp [h])
def zZ6 (e:Nat) (ts:List Tok):Tok:=match ts with|t::_=>t | []=>⟨0,[],0,e⟩
theorem zK4 (e:Nat) (ts:List Tok):(zZ6 e ts).kind=(here ts).kind:=by cases ts <;> rfl
theorem zW1 (e:Nat) (ts:List Tok):(zZ6 e ts).text=(here ts).text:=by cases ts <;> rfl
theorem zQ7 (e:Nat) (ts:List Tok):(zZ6 e ts).word=(here ts).word:=by cases ts <;> rfl
theorem zZ2 (e:Nat) (ts:List Tok):(zZ6 e ts).at_=atT e ts:=by cases ts <;> rfl
theorem zQ6 {e:Nat} {ts:List Tok} (h:ts≠[]):zZ6 e ts=here ts:=by cases ts with|nil=>exact absurd rfl h|cons x l=>rfl
theorem Done.ok_inv {α:Type} {F:List Tok→PR α} {σ σ':RS} {x:α} (h:Done (run F σ) x σ') (ho:σ'.ok):σ.ok∧F σ.r=.ok (x,σ'.r):=by
  by_cases hs:σ.ok
  · refine⟨hs,?_⟩
    rw [zD3 hs] at h
    cases hF:F σ.r with
    | error f=>rw [hF] at h;exact absurd (show σ'.f.2=0 from ho) (by rw [h.1];exact h.2)
    | ok p=>rw [hF] at h;obtain⟨h1,h2,h3⟩:=h;subst h1;rw [h2]
  · rw [zF6 hs] at h;exact absurd (show σ'.f.2=0 from ho) (by rw [h.1];exact h.2)
theorem gR2 {u:List Tok→PR Ex} {lv:Int} {σ σ1:RS} {x:Ex} (h:Done (run u σ) x σ1):run (zV0 u lv) σ=run (fun r=>zK8 u (r.length+1) lv x r) σ1:=by
  by_cases ho:σ1.ok
  · obtain⟨h1,h2⟩:=h.ok_inv ho
    rw [zD3 h1,zD3 ho];unfold zV0;rw [h2]
  · rw [zF6 ho]
    by_cases hs:σ.ok
    · rw [zD3 hs] at h ⊢
      unfold zV0
      cases hu:u σ.r with
      | error f=>rw [hu] at h;rw [h.1]
      | ok p=>rw [hu] at h;exact absurd h.2.2 ho
    · rw [zF6 hs] at h ⊢;rw [h.1]
theorem gG5 {u:List Tok→PR Ex} {k:Nat} {lv:Int} {x:Ex} {σ:RS} (h:∀ op,opT (here σ.r)=some op→zI8 (op:Int)<lv):Done (run (zK8 u (k+1) lv x) σ) x σ:=by
  by_cases ho:σ.ok
  · rw [zD3 ho]
    simp only [zK8]
    cases hop:opT (here σ.r) with
    | none=>exact⟨rfl,rfl,ho⟩
    | some op=>simp only;rw [if_pos (h op hop)];exact⟨rfl,rfl,ho⟩
  · exact .bad ho x
theorem kH9 {u:List Tok→PR Ex} (hu:kA6 u) {k:Nat} {lv:Int} {x z:Ex} {σ σ2:RS} {op:Nat} (ho:σ.ok) (hop:opT (here σ.r)=some op) (hlv:lv≤zI8 (op:Int)) (hk:σ.r.length<k+1)
    (hz:Done (run (zV0 u (zI8 (op:Int)+1)) ⟨σ.r.tail,σ.f⟩) z σ2):run (zK8 u (k+1) lv x) σ=run (zK8 u k lv (gB2 op (here σ.r).at_ x z)) σ2:=by
  have hne:=zC2 (qS1 hop)
  rw [zD3 ho]
  have ho':(RS.mk σ.r.tail σ.f).ok:=ho
  rw [zD3 ho'] at hz
  simp only [zK8,hop]
  rw [if_neg (by omega)]
  unfold zV0 at hz
  dsimp only at hz
  cases hx:u σ.r.tail with
  | error f=>
    rw [hx] at hz
    have hb:¬ σ2.ok:=by show ¬ σ2.f.2=0;rw [hz.1];exact hz.2
    simp only
    rw [zF6 hb,hz.1]
  | ok p=>
    obtain⟨y,r1⟩:=p
    rw [hx] at hz
    simp only at hz ⊢
    have hr1:=hu _ _ _ hx
    rw [qH1 u hu (fun n lv x r z r' h=>qF5 u hu n lv x r z r' h) (r1.length+1) k _ _ _ (by omega) (by omega)] at hz
    cases hl:zK8 u k (zI8 (op:Int)+1) y r1 with
    | error f=>
      rw [hl] at hz
      have hb:¬ σ2.ok:=by show ¬ σ2.f.2=0;rw [hz.1];exact hz.2
      simp only
      rw [zF6 hb,hz.1]
    | ok q=>
      obtain⟨z1,r2⟩:=q
      rw [hl] at hz
      obtain⟨rfl,h2,h3⟩:=hz
      rw [zD3 h3,h2]
theorem gE9 {r:List Tok} (h:(here r).kind=3∨(here r).kind=1):zF r=false:=by
  unfold zF isT
  rcases h with h|h <;> rw [h] <;> simp
theorem kS2 {e m:Nat} {σ:RS} (ho:σ.ok) (hk:(here σ.r).kind=3):Done (run (zC1 e m) σ) (.mk 1 0 ((here σ.r).word:Int) [] [] ((here σ.r).at_:Int)) ⟨σ.r.tail,σ.f⟩:=by
  rw [zD3 ho]
  have hi:=gE9 (.inl hk)
  have hl:zV1 e σ.r=.ok (.mk 1 0 ((here σ.r).word:Int) [] [] ((here σ.r).at_:Int),σ.r.tail):=by unfold zV1;rw [if_pos hk]
  cases m <;> simp only [zC1,hi,hl] <;> exact⟨rfl,rfl,ho⟩
theorem kC5 {e m:Nat} {σ:RS} (ho:σ.ok) (hk:(here σ.r).kind=1):Done (run (zC1 e m) σ) (.mk 2 0 0 (here σ.r).text [] ((here σ.r).at_:Int)) ⟨σ.r.tail,σ.f⟩:=by
  rw [zD3 ho]
  have hi:=gE9 (.inr hk)
  have hl:zV1 e σ.r=.ok (.mk 2 0 0 (here σ.r).text [] ((here σ.r).at_:Int),σ.r.tail):=by unfold zV1;rw [if_neg (by omega),if_pos hk]
  cases m <;> simp only [zC1,hi,hl] <;> exact⟨rfl,rfl,ho⟩
theorem qP4 {e:Nat} {σ:RS} (hi:zF σ.r=true) (x:Ex):Done (run (zC1 e 0) σ) x (zY8 e 3 σ):=.of_fail (k:=3) (by decide) (fun _=>by simp only [zC1,hi,if_true]) rfl
theorem kC2 {e m:Nat} {σ:RS} (hi:zF σ.r=false) (h3:(here σ.r).kind≠3) (h1:(here σ.r).kind≠1) (x:Ex):Done (run (zC1 e m) σ) x (zY8 e 2 σ):=by
  refine .of_fail (k:=2) (by decide) (fun _=>?_) rfl
  have hl:zV1 e σ.r=ParS.fail e 2 σ.r:=by unfold zV1;rw [if_neg h3,if_neg h1]
  cases m <;> simp only [zC1,hi,hl] <;> rfl
theorem gA9 {e m:Nat} {σ σ2:RS} {x:Ex} (ht:zC7 [40] σ=true) (h:Done (run (zV0 (zC1 e m) 1) ⟨σ.r.tail,σ.f⟩) x σ2):Done (run (zC1 e (m+1)) σ) x (zF3 e [41] σ2):=by
  obtain⟨ho,hi⟩:=zC8 ht
  have h1:Done (run (zX4 (zC1 e m)) ⟨σ.r.tail,σ.f⟩) x σ2:=h.congr (fun r=>zW5 (zC1 e m) (zI3 e m) r)
  have h2:=h1.bind (G:=fun x r=>match ParS.want e [41] r with | .error f=>.error f | .ok r'=>.ok (x,r')) (Done.want (Done.ret x _))
  rw [zD3 (by exact ho)] at h2
  rw [zD3 ho]
  have h3:zF σ.r=true:=by unfold zF;rw [hi];simp
  have h4:(here σ.r).text=[40]:=by unfold isT at hi;simp only [Bool.and_eq_true,decide_eq_true_eq] at hi;exact hi.1
  simp only [zC1,h3,h4,if_true]
  dsimp only at h2
  cases hx:zX4 (zC1 e m) σ.r.tail with
  | error f=>rw [hx] at h2;exact h2
  | ok p=>
    obtain⟨a,r'⟩:=p
    rw [hx] at h2
    dsimp only at h2 ⊢
    cases hw:ParS.want e [41] r' with
    | error f=>rw [hw] at h2;exact h2
    | ok r2=>rw [hw] at h2;exact h2
theorem gC8 {e m:Nat} {s:List UInt8} {op:Int} (hs:(s=[45]∧op=17)∨(s=[33]∧op=18)) {σ σ2:RS} {x:Ex} (ht:zC7 s σ=true) (h:Done (run (zC1 e m) ⟨σ.r.tail,σ.f⟩) x σ2) :
    Done (run (zC1 e (m+1)) σ) (.mk 3 op 0 [] [x] ((here σ.r).at_:Int)) σ2:=by
  obtain⟨ho,hi⟩:=zC8 ht
  have h1:=h.bind (G:=fun y r=>.ok (Ex.mk 3 (if (here σ.r).text=[33] then 18 else 17) 0 [] [y] ((here σ.r).at_:Int),r)) (Done.ret _ _)
  rw [zD3 (by exact ho)] at h1
  rw [zD3 ho]
  have h4:(here σ.r).text=s:=by unfold isT at hi;simp only [Bool.and_eq_true,decide_eq_true_eq] at hi;exact hi.1
  have h3:zF σ.r=true:=by
    unfold zF
    rcases hs with ⟨rfl,-⟩|⟨rfl,-⟩ <;> rw [hi] <;> simp
  have h5:¬ (here σ.r).text=[40]:=by rw [h4];rcases hs with ⟨rfl,-⟩|⟨rfl,-⟩ <;> decide
  have h6:(if (here σ.r).text=[33] then (18:Int) else 17)=op:=by rw [h4];rcases hs with ⟨rfl,rfl⟩|⟨rfl,rfl⟩ <;> rfl
  simp only [zC1,h3,if_true,if_neg h5]
  rw [h6] at h1 ⊢
  dsimp only at h1
  cases hx:zC1 e m σ.r.tail with
  | error f=>rw [hx] at h1;exact h1
  | ok p=>rw [hx] at h1;exact h1
end ParS
/- A reader that goes on behind a fault,in memory. -/
namespace Sx
open Go Go.RowKit LexS ParS
structure RCtx where
  rb:Nat
  n0:Nat
  oa:Option Addr
  cap:Nat
  ts:List Tok
  e:Nat
  T:Nat
abbrev zQ4 (c:RCtx) (σ:RS):List Value:=[.slice c.oa c.ts.length c.cap,.int .i64 ((c.ts.length - σ.r.length:Nat):Int),.int .i64 (c.e:Int),.int .i64 (σ.f.1:Int),.int .i64 (σ.f.2:Int)]
abbrev RAt (c:RCtx) (σ:RS) (w:World):Prop:=w.heap[c.rb]?=some (.cells (zQ4 c σ).toArray c.T (0,0))
structure RCok (c:RCtx) (w:World):Prop where
  row:RowC w (·<c.n0) 4 c.oa c.ts.length (fun j=>tkL (c.ts.getD j gT0))
  n0:c.n0≤c.rb
  len:c.ts.length≤1048576
  el:c.e≤1048576
  le:c.n0≤w.heap.size
  wd:∀ t∈c.ts,t.word≤9223372036854775807
  sg:∀ t∈c.ts,t.kind=4→zM1 t.text=true
theorem RCok.kept {c:RCtx} {M:List Nat} {w w':World} (h:RCok c w) (k:Chg M w w') (hM:∀ b∈M,c.n0≤b):RCok c w':=
  ⟨h.row.kept (.of_chg k fun b hb hm=>absurd (hM b hm) (Nat.not_le.2 hb)),h.n0,h.len,h.el,Nat.le_trans h.le k.size,h.wd,h.sg⟩
theorem RCok.k1 {c:RCtx} {w w':World} (h:RCok c w) (k:Chg [c.rb] w w'):RCok c w':=h.kept k (by simpa using h.n0)
theorem RCok.tok {c:RCtx} {w:World} (h:RCok c w) {r:List Tok} (hs:r <:+ c.ts) (hr:r≠[]):∃ b off,c.oa=some ⟨b,off,none⟩∧∀ i v,(tkL (here r))[i]?=some v→w.cell? ⟨b,off+(c.ts.length - r.length)*4+i,none⟩=some v:=by
  obtain⟨h1,h2⟩:=qX9 hs hr
  rcases h.row with h0|⟨b,off,e,hb,hl,hc⟩
  · omega
  · refine⟨b,off,e,fun i v hi=>(hc _ h2).2 i v ?_⟩
    dsimp only;rw [h1];exact hi
theorem kH5 {e:Nat} {r:List Tok} (h:r.length=0):zZ6 e r=⟨0,[],0,e⟩:=by rw [List.eq_nil_of_length_eq_zero h];rfl
def kA4 {α:Type} (c:RCtx) (σ:RS) (F:List Tok→PR α) (w:World) (H:α→Value→World→Prop) (v:Value) (w':World):Prop:=
  ∃ x σ',Done (run F σ) x σ'∧σ'.r <:+ σ.r∧RAt c σ' w'∧Chg [c.rb] w w'∧H x v w'
structure RSt where
  x:Ex
  σ:RS
  k:Nat
  ox:Option Addr
  cx:Nat
  Sx:List Nat
end Sx
namespace Go.Proofs.YtnmhlpnapgojjaaGreatDoor.Pq
open Go.RowKit Sx LexS ParS _root_.Go.Proofs.Tryz
theorem kO0 (σ:RS):decide ((σ.f.2:Int)=0)=decide σ.ok:=by
 rw [Bool.eq_iff_iff];simp only [decide_eq_true_eq];unfold RS.ok;omega
theorem zR5 (c:RCtx) (σ:RS) (hr:σ.r <:+ c.ts) (w:World) (hC:RCok c w) (hP:RAt c σ w):Ret Tryz.prog 140 [.pointer (some ⟨c.rb,0,none⟩)] w fun v w'=>v=.bool (decide σ.ok)∧Chg [] w w':=by
 refine zB [_] func140 rfl ntmps140 rfl ?_;obtain⟨w0,rfl⟩:∃ w0,w0=w:=⟨_,rfl⟩
 have hP':=hP;dsimp only [RAt,zQ4] at hP;have st:=St.of1 [] hP;have h20:=hC.len;have hl:=zB6 hr;refine a9 ?_;refine yfz 4 qU168 qZ3 ?_;refine yl st 0 qA3 ?_;refine a5 ?_;refine vr1 st results140 ?_;exact⟨congrArg Value.bool (kO0 σ),st.chg⟩
theorem zX (c:RCtx) (σ:RS) (hr:σ.r <:+ c.ts) (w:World) (hC:RCok c w) (hP:RAt c σ w):Ret Tryz.prog 221 [.pointer (some ⟨c.rb,0,none⟩)] w fun v w'=>v=.agg (tkL (zZ6 c.e σ.r)).toArray∧Chg [] w w':=by
 obtain⟨rb,n0,oa,cap,ts,e,TT⟩:=c;obtain⟨r,f⟩:=σ;dsimp only [RAt,zQ4] at hr hP ⊢;refine zB [_] func221 rfl ntmps221 rfl ?_;obtain⟨w0,rfl⟩:∃ w0,w0=w:=⟨_,rfl⟩
 have st:=St.of1 [] hP;refine a2 ?_;refine zA3 (zF8 (l:=[_,_,_,_]) st rfl rfl qV118 rfl ?_);intro b2 w hb2 st;refine a4 ?_;refine qJ5 Tryz.mixed [Yt 0,Yt 1,Yt 2,Yt 3,Yt 4,Yt 5,Yt 6,Yt 7,Yt 8,Yt 9] st ?_;clear st;intro w st hS;refine pm hS ?_;refine pnk hS ?_;refine pfz hS 1 qU168 qZ3 ?_;refine pld hS 1 qA3 ?_;refine pm hS ?_;refine pnk hS ?_;refine pf0 hS qU168 qZ89 ?_;refine pld hS 1 qA89 ?_;refine zA2 rfl rfl rfl hS (fun w st=>zB1 rfl qU89) ?_;refine zA2 rfl rfl rfl hS (fun w st=>zM5 rfl rfl) ?_;refine zC6 (zA6 ?_);refine vif ?_ ?_;intro hc12;(try simp only [dn] at hc12);have hne:r≠[]:=by rintro rfl;simp at hc12
 obtain⟨tb,tq,hoa,hc⟩:=hC.tok hr hne;have hlt:=(qX9 hr hne).2;dsimp only at hoa hc hlt;subst hoa;refine a1 ?_;refine vdr Tryz.mixed [Yt 0,Yt 1,Yt 2,Yt 3,Yt 4,Yt 5,Yt 6,Yt 7,Yt 8,Yt 9,Nt 10] [.blk rb (.cells [.slice (some ⟨tb,tq,none⟩) ts.length cap,.int .i64 ((ts.length - r.length:Nat):Int),.int .i64 (e:Int),.int .i64 (f.1:Int),.int .i64 (f.2:Int)].toArray TT (0,0))] st ?_;clear st;intro w st hS;refine pm hS ?_;refine pnk hS ?_;refine pf0 hS qU168 qZ89 ?_;refine pld hS 0 qA89 ?_;refine pm hS ?_;refine pnk hS ?_;refine pfz hS 1 qU168 qZ3 ?_;refine pld hS 0 qA3 ?_;refine zA2 rfl rfl rfl hS (fun w st=>zM3 (k:=(ts.length - r.length)) rfl rfl qU89 qZ118 rfl (hlt)) ?_;refine zA2 rfl rfl rfl hS (fun w st=>zE6 (tkL (here r)) rfl qA118 qZ118 rfl (fun i v hi=>st.chg.cell (hc i v hi) (by simp))) ?_;refine zD0 rfl (zC4 st 0 [_,_,_,_] qZ118 ?_);intro w st;dsimp only [zA0,wr] at st;refine zA9 st.dr ?_;intro hS;refine zC6 (zA6 (zA8 (zA ?_)));refine zB7 st (.inl rfl) results221 (by exact .cell 0 rfl rfl qA118 qZ118) ?_;refine⟨_,rfl,?_⟩;rw [zQ6 hne];exact⟨rfl,st.chg⟩;intro hc12;(try simp only [dn] at hc12);have h0:r.length=0:=by have:=zB6 hr;omega
 refine a6 ?_;refine yfz 2 qU168 qZ3 ?_;refine yl st 1 qA3 ?_;refine vy (ybd (.agg #[_,_,_,_]) [(3,_)]) ?_;refine zA3 (zC4 st 0 [_,_,_,_] qZ118 ?_);intro w st;dsimp only [zA0,wr] at st;refine a3 ?_;refine zB7 st (.inl rfl) results221 (by exact .cell 0 rfl rfl qA118 qZ118) ?_;refine⟨_,rfl,?_⟩;rw [kH5 h0];exact⟨rfl,st.chg⟩
theorem zW7 (c:RCtx) (k:Nat) (σ:RS) (hr:σ.r <:+ c.ts) (w:World) (hC:RCok c w) (hP:RAt c σ w):Ret Tryz.prog 222 [.pointer (some ⟨c.rb,0,none⟩),.int .i64 (k:Int)] w fun v w'=>v=.tuple #[]∧RAt c (zY8 c.e k σ) w'∧Chg [c.rb] w w':=by
 refine zB [_,_] func222 rfl ntmps222 rfl ?_;obtain⟨w0,rfl⟩:∃ w0,w0=w:=⟨_,rfl⟩
 have hP':=hP;dsimp only [RAt,zQ4] at hP;have st:=St.of1 [c.rb] hP;have h20:=hC.len;have hl:=zB6 hr;refine a3 ?_;refine zA3 (zA1 [_] rfl rfl call140 rfl (zR5 c σ hr _ (hC.k1 st.chg) (by exact st.rs 0)) ?_);rintro _ w ⟨rfl,cw⟩;replace st:=st.call0 cw;refine a2 ?_;refine vif ?_ ?_;intro hc5;have ho:σ.ok:=by simpa using hc5
 rw [qC1 ho];refine a4 ?_;refine zA3 (zA1 [_] rfl rfl call221 rfl (zX c σ hr _ (hC.k1 st.chg) (by exact st.rs 0)) ?_);rintro _ w ⟨rfl,cw⟩;replace st:=st.call0 cw;refine vy (gK2 rfl qU118 rfl rfl qA3 rfl) ?_;refine a1 ?_;refine yfz 3 qU168 qZ3 ?_;refine zA3 (est st 0 qZ3 ?_);intro w st;refine a6 ?_;refine yfz 4 qU168 qZ3 ?_;refine zA3 (est st 0 qZ3 ?_);intro w st;refine a1 ?_;refine zD4 (.inr rfl) results222 ?_;refine⟨_,rfl,?_⟩;refine⟨rfl,?_,st.chg⟩;have h:=st.res (i:=0) rfl;rw [zZ2] at h;exact h;intro hc5;have ho:¬ σ.ok:=by simpa using hc5
 rw [qB8 ho];refine a1 ?_;refine zD4 (.inr rfl) results222 ?_;refine⟨_,rfl,?_⟩;exact⟨rfl,st.res (i:=0) rfl,st.chg⟩
theorem qX4 (c:RCtx) (s:List UInt8) (σ:RS) (hr:σ.r <:+ c.ts) (w:World) (hC:RCok c w) (hP:RAt c σ w):Ret Tryz.prog 219 [.pointer (some ⟨c.rb,0,none⟩),str s] w fun v w'=>v=.bool (isT s σ.r)∧Chg [] w w':=by
 refine zB [_,_] func219 rfl ntmps219 rfl ?_;have st:=St.init w [];obtain⟨w0,rfl⟩:∃ w0,w0=w:=⟨_,rfl⟩
 refine a8 ?_;refine zA3 (zA1 [_] rfl rfl call221 rfl (zX c σ hr _ hC hP) ?_);rintro _ w ⟨rfl,cw⟩;replace st:=st.call0 cw;refine zA3 (zF8 (l:=[_,_,_,_]) st rfl rfl qV118 rfl ?_);intro b5 w hb5 st;refine zA3 (zC4 st 0 [_,_,_,_] qZ118 ?_);intro w st;refine a4 ?_;refine vy (zC3 rfl qU118 rfl rfl qZ116 rfl) ?_;refine yl st 0 qA116 ?_;refine a1 ?_;refine vmb ?_ ?_;intro hg11;refine a5 ?_;refine yfz 1 qU118 qZ9 ?_;refine yl st 0 qA9 ?_;refine a3 ?_
 rotate_left
 focus
  intro hg11;refine vy (zC3 rfl qU118 rfl rfl qZ116 rfl) ?_;refine yl st 0 qA116 ?_;refine a2 ?_;refine vmb ?_ ?_;intro hg16;refine yfz 1 qU118 qZ9 ?_;refine yl st 0 qA9 ?_;refine a3 ?_
  rotate_left
  intro hg16;refine a5 ?_
 all_goals
  refine a4 ?_;refine vr1 st results219 ?_;rw [zK4,zW1] at *;have hk2:((here σ.r).kind:Int)=2↔(here σ.r).kind=2:=by omega
  have hk4:((here σ.r).kind:Int)=4↔(here σ.r).kind=4:=by omega
  refine⟨?_,st.chg⟩;unfold isT
  simp_all
theorem zH2 (c:RCtx) (s:List UInt8) (σ:RS) (hr:σ.r <:+ c.ts) (w:World) (hC:RCok c w) (hP:RAt c σ w):Ret Tryz.prog 175 [.pointer (some ⟨c.rb,0,none⟩),str s] w fun v w'=>v=.bool (zC7 s σ)∧RAt c (gB8 s σ) w'∧Chg [c.rb] w w':=by
 refine zB [_,_] func175 rfl ntmps175 rfl ?_;obtain⟨w0,rfl⟩:∃ w0,w0=w:=⟨_,rfl⟩
 have hP':=hP;dsimp only [RAt,zQ4] at hP;have st:=St.of1 [c.rb] hP;have h20:=hC.len;have hl:=zB6 hr;refine a9 ?_;refine zA3 (zA1 [_] rfl rfl call140 rfl (zR5 c σ hr _ (hC.k1 st.chg) (by exact st.rs 0)) ?_);rintro _ w ⟨rfl,cw⟩;replace st:=st.call0 cw;refine vmb ?_ ?_;intro hg7;have ho:σ.ok:=by simpa using hg7
 refine a2 ?_;refine zA3 (zA1 [_,_] rfl rfl call219 rfl (qX4 c s σ hr _ (hC.k1 st.chg) (by exact st.rs 0)) ?_);rintro _ w ⟨rfl,cw⟩;replace st:=st.call0 cw;refine a3 ?_;refine vif ?_ ?_;intro hc11;have hT:zC7 s σ=true:=by rw [zG4 ho];simpa using hc11
 have ht:=zC2 (zI5 (zC8 hT).2);have ht2:σ.r.tail.length=σ.r.length - 1:=List.length_tail;refine a4 ?_;refine yfz 1 qU168 qZ3 ?_;refine yl st 0 qA3 ?_;refine vy (yin ((c.ts.length - σ.r.tail.length:Nat):Int)) ?_;refine a1 ?_;refine yfz 1 qU168 qZ3 ?_;refine zA3 (est st 0 qZ3 ?_);intro w st;refine a9 ?_;refine vr1 st results175 ?_;rw [hT,zH6 hT];exact⟨rfl,st.res (i:=0) rfl,st.chg⟩;intro hc11;have hT:zC7 s σ=false:=by rw [zG4 ho];simpa using hc11
 refine a8 ?_;refine vr1 st results175 ?_;rw [hT,zG9 hT];exact⟨rfl,st.res (i:=0) rfl,st.chg⟩;intro hg7;have ho:¬ σ.ok:=by simpa using hg7
 have hT:zC7 s σ=false:=gA5 ho;refine a15 ?_;refine vr1 st results175 ?_;rw [hT,zG9 hT];exact⟨rfl,st.res (i:=0) rfl,st.chg⟩
theorem zG2 (c:RCtx) (s:List UInt8) (σ:RS) (hr:σ.r <:+ c.ts) (w:World) (hC:RCok c w) (hP:RAt c σ w):Ret Tryz.prog 223 [.pointer (some ⟨c.rb,0,none⟩),str s] w fun v w'=>v=.tuple #[]∧RAt c (zF3 c.e s σ) w'∧Chg [c.rb] w w':=by
 refine zB [_,_] func223 rfl ntmps223 rfl ?_;obtain⟨w0,rfl⟩:∃ w0,w0=w:=⟨_,rfl⟩
 have hP':=hP;dsimp only [RAt,zQ4] at hP;have st:=St.of1 [c.rb] hP;have h20:=hC.len;have hl:=zB6 hr;refine a4 ?_;refine zA3 (zA1 [_,_] rfl rfl call175 rfl (zH2 c s σ hr _ (hC.k1 st.chg) (by exact st.rs 0)) ?_);rintro _ w ⟨rfl,hP1,cw⟩;replace st:=St.prs (b:=c.rb) st 0 rfl cw (.inl (.head _)) hP1;refine a3 ?_;refine vif ?_ ?_;intro hc7;have hF:zC7 s σ=false:=by simpa using hc7
 rw [zG9 hF] at st;refine a2 ?_;refine zA3 (zA1 [_,_] rfl rfl call222 rfl (zW7 c 2 σ hr _ (hC.k1 st.chg) (by exact st.rs 0)) ?_);rintro _ w ⟨rfl,hP1,cw⟩;replace st:=St.prs (b:=c.rb) st 0 rfl cw (.inl (.head _)) hP1;refine a1 ?_;refine zD4 (.inr rfl) results223 ?_;refine⟨_,rfl,?_⟩;refine⟨rfl,?_,st.chg⟩;unfold zF3;rw [hF];exact st.res (i:=0) rfl;intro hc7;have hT:zC7 s σ=true:=by simpa using hc7
 rw [zH6 hT] at st;refine a1 ?_;refine zD4 (.inr rfl) results223 ?_;refine⟨_,rfl,?_⟩;refine⟨rfl,?_,st.chg⟩;unfold zF3;rw [hT];exact st.res (i:=0) rfl
abbrev sgnL:List Value:=(List.range 19).map fun k=>str (sgn k)
abbrev lvlL:List Value:=(List.range 19).map fun k=>.int .i64 (lvl k)
theorem kM0 {f:Nat→Value} (m:Nat) (h:m<19):nth ((List.range 19).map f) m=some (f m):=by rw [zL8];simp [h]
theorem zD7 {w:World} {b off E:Nat} {l:List Value} {v:Value} (h:w.heap[b]?=some (.cells l.toArray E (0,0))) (hv:nth l off=some v):w.cell? ⟨b,off,none⟩=some v:=zO h hv
theorem qO0 (k:Int) (hk:0≤k) (w:World):Ret Tryz.prog 238 [.int .u8 k] w fun v w'=>v=str (if k<19 then sgn k.toNat else [])∧Chg [] w w':=by
 refine zB [_] func238 rfl ntmps238 rfl ?_;have st:=St.init w [];refine a12 ?_;refine vif ?_ ?_;intro hc4;(try simp only [dn] at hc4);refine a7 ?_;refine vr1 st results238 ?_;refine⟨?_,st.chg⟩;rw [if_neg (by omega)];intro hc4;(try simp only [dn] at hc4);obtain⟨m,rfl⟩:∃ m:Nat,k=(m:Int):=⟨k.toNat,by omega⟩
 refine a4 ?_;refine zA3 (zY7 (l:=sgnL) (E:=9) st [(0,_),(1,_),(2,_),(3,_),(4,_),(5,_),(6,_),(7,_),(8,_),(9,_),(10,_),(11,_),(12,_),(13,_),(14,_),(15,_),(16,_),(17,_),(18,_)] rfl rfl rfl (fun w=>by simp [Instr.buildSlice,run_underlying qU50,qZ9,qV9,Instr.fill,newRow,newObj,Sem.run,go_sem];rfl) ?_);intro b5 w hb5 st;refine a1 ?_;refine vy (qA (k:=m) rfl rfl qU50 qZ9 rfl (by omega)) ?_;refine vy ((by exact zD8 rfl qA9 (zD7 (st.res (i:=0) rfl) (by rw [Nat.mul_one];exact kM0 m (by omega))))) ?_;refine a4 ?_;refine vr1 st results238 ?_;refine⟨?_,st.chg⟩;rw [if_pos (by omega)];rfl
theorem qA7 (k:Int) (hk:0≤k) (w:World):Ret Tryz.prog 250 [.int .u8 k] w fun v w'=>v=.int .i64 (zI8 k)∧Chg [] w w':=by
 refine zB [_] func250 rfl ntmps250 rfl ?_;have st:=St.init w [];refine a12 ?_;refine vif ?_ ?_;intro hc4;(try simp only [dn] at hc4);refine a7 ?_;refine vr1 st results250 ?_;refine⟨?_,st.chg⟩;unfold zI8;rw [if_neg (show ¬ zL5 k=true by simp [zL5];omega)];intro hc4;(try simp only [dn] at hc4);obtain⟨m,rfl⟩:∃ m:Nat,k=(m:Int):=⟨k.toNat,by omega⟩
 refine a4 ?_;refine zA3 (zY7 (l:=lvlL) (E:=3) st [(0,_),(1,_),(2,_),(3,_),(4,_),(5,_),(6,_),(7,_),(8,_),(9,_),(10,_),(11,_),(12,_),(13,_),(14,_),(15,_),(16,_),(17,_),(18,_)] rfl rfl rfl (fun w=>by simp [Instr.buildSlice,run_underlying underlying262,qZ3,qV3,Instr.fill,newRow,newObj,Sem.run,go_sem];rfl) ?_);intro b5 w hb5 st;refine a1 ?_;refine vy (qA (k:=m) rfl rfl underlying262 qZ3 rfl (by omega)) ?_;refine vy ((by exact zD8 rfl qA3 (zD7 (st.res (i:=0) rfl) (by rw [Nat.mul_one];exact kM0 m (by omega))))) ?_;refine a4 ?_;refine vr1 st results250 ?_;refine⟨?_,st.chg⟩;unfold zI8
 by_cases h0:m=0
 subst h0;rfl;rw [if_pos (show zL5 (m:Int)=true by simp [zL5];omega)];rfl
theorem kK6 (s:List UInt8) (w:World):Ret Tryz.prog 263 [str s] w fun v w'=>v=.tuple [.int .u8 (((zN9 s).getD 0:Nat):Int),.bool (zN9 s).isSome].toArray∧Chg [] w w':=by
 refine zB [_] func263 rfl ntmps263 rfl ?_;have st:=St.init w [];obtain⟨w0,rfl⟩:∃ w0,w0=w:=⟨_,rfl⟩
 refine a13 ?_;refine zC (w0:=w0) (M:=[]) (fun (j:Nat)=>[(0,str s),(4,.int .u8 (j:Int))]) (fun _=>[]) (fun j w'=>1≤j∧j≤17∧jH9 s j) (fun j=>17 - j) 1 ⟨rfl,rfl,trivial⟩ st ⟨by omega,by omega,by intro k hk;obtain rfl:k=0:=(by omega);simp [zP9]⟩ ?_;clear st;rintro j w ⟨hj1,hj,hno⟩ st;refine a7 ?_;refine vif ?_ ?_;intro hc6;(try simp only [dn] at hc6);have hj19:(j:Int)<19:=by omega
 have htwo:zP9 (j:Int)=true:=by unfold zP9;simp;omega
 refine a7 ?_;refine zA3 (zA1 [_] rfl rfl call238 rfl (qO0 _ (by omega) _) ?_);rintro _ w ⟨rfl,cw⟩;replace st:=st.call0 cw;refine a4 ?_;refine vif ?_ ?_;intro hc12;(try simp only [dn] at hc12);refine a13 ?_;refine zG3 st (.inl rfl) results263 (.tmp rfl) (.tmp rfl) ?_;refine⟨_,rfl,?_⟩;have hs:sgn j=s:=by simpa [hj19] using hc12
 have he:zN9 s=some j:=gY7 (by omega) hno htwo hs;rw [he];exact⟨rfl,st.chg⟩;intro hc12;(try simp only [dn] at hc12);refine a5 ?_;refine vy (qJ1 rfl rfl (by rw [qD2];omega:_=((j+1:Nat):Int))) ?_;refine a2 ?_;refine zA7 (j+1)  ⟨rfl,rfl,trivial⟩ st ?_ ?_;exact⟨by omega,by omega,qF2 hno (by simp;intro _;simpa [hj19] using hc12)⟩;omega;intro hc6;(try simp only [dn] at hc6);refine a12 ?_;refine zG3 st (.inl rfl) results263 (.tmp rfl) (.tmp rfl) ?_;refine⟨_,rfl,?_⟩;obtain rfl:j=17:=by omega
 have hno2:jH9 s 19:=qF2 (qF2 hno (by simp [zP9])) (by simp [zP9]);rw [gY3 hno2];exact⟨rfl,st.chg⟩
theorem qY8 (op:Nat):0≤zI8 (op:Int)∧zI8 (op:Int)≤9:=by
 unfold zI8;split;rename_i h;have key:∀ k:Nat,k<19→0≤lvl k∧lvl k≤9:=by decide
 simp only [zL5,decide_eq_true_eq] at h;simpa using key op (by omega);omega
theorem kP (op:Nat):zI8 (op:Int)≤9:=(qY8 op).2
theorem kM4 (op:Nat):0≤zI8 (op:Int):=(qY8 op).1
def UR (c:RCtx) (n:Nat):Prop:=∀ (m d:Nat),d+m=64→∀ (σ:RS),σ.r <:+ c.ts→(σ.ok→σ.r.length≤n)→∀ (w:World),RCok c w→RAt c σ w→Ret Tryz.prog 262 [.pointer (some ⟨c.rb,0,none⟩),.int .i64 (d:Int)] w (kA4 c σ (zC1 c.e m) w (HE w))
def ER (c:RCtx) (n:Nat):Prop:=∀ (m d:Nat),d+m=64→∀ (lv:Int),0≤lv→lv≤10→∀ (σ:RS),σ.r <:+ c.ts→(σ.ok→σ.r.length≤n)→∀ (w:World),RCok c w→RAt c σ w→Ret Tryz.prog 256 [.pointer (some ⟨c.rb,0,none⟩),.int .i64 lv,.int .i64 (d:Int)] w (kA4 c σ (zV0 (zC1 c.e m) lv) w (HE w))
set_option maxHeartbeats 1000000 in
theorem kL8 (c:RCtx) (n:Nat) (hU:∀ k,k<n→UR c k) (hE:∀ k,k<n→ER c k):UR c n:=by
 intro m d hd σ hr hn w hC hP;refine zB [_,_] func262 rfl ntmps262 rfl ?_;obtain⟨w0,rfl⟩:∃ w0,w0=w:=⟨_,rfl⟩
 have hP':=hP;dsimp only [RAt,zQ4] at hP;have st:=St.of1 [c.rb] hP;have h20:=hC.len;have hl:=zB6 hr;refine a2 ?_;refine zA3 (zF8 (l:=[_,_,_,_,_,_]) st rfl rfl qV42 rfl ?_);intro b4 w hb4 st;refine a5 ?_;refine zA3 (zA1 [_] rfl rfl call221 rfl (zX c σ hr _ (hC.k1 st.chg) (by exact st.rs 1)) ?_);rintro _ w ⟨rfl,cw⟩;replace st:=st.call0 cw;refine zA3 (zF8 (l:=[_,_,_,_]) st rfl rfl qV118 rfl ?_);intro b5 w hb5 st;refine zA3 (zC4 st 0 [_,_,_,_] qZ118 ?_);intro w st;dsimp only [zA0,wr] at st;refine a3 ?_;refine zL2 (w0:=w0) (M:=[c.rb]) (fun (b:Bool)=>[(0,.pointer (some ⟨c.rb,0,none⟩)),(1,.int .i64 (d:Int)),(4,.pointer (some ⟨b4,0,none⟩)),(5,.pointer (some ⟨b5,0,none⟩)),(24,.bool b)]) (fun _=>[.blk b5 (.cells (tkL (zZ6 c.e σ.r)).toArray 118 (0,0)),.blk b4 (.cells ex00.toArray 42 (0,0)),.blk c.rb (.cells (zQ4 c σ).toArray c.T (0,0))]) (fun b _=>b=(zF σ.r && decide (64≤d))) ?_ ?_;refine a2 ?_;refine zA3 (zA1 [_,_] rfl rfl call219 rfl (qX4 c [45] σ hr _ (hC.k1 st.chg) (by exact st.rs 2)) ?_);rintro _ w ⟨rfl,cw⟩;replace st:=st.call0 cw;refine vmb ?_ ?_;intro hg13;(try simp only [dn] at hg13);refine a12 ?_;refine zB8 (decide ((64:Int)≤(d:Int))) ⟨rfl,rfl,rfl,rfl,rfl,trivial⟩ st ?_;show _=_;have hi:zF σ.r=true:=by unfold zF;rw [hg13];simp
 rw [hi,Bool.true_and,Bool.eq_iff_iff];simp only [decide_eq_true_eq];omega;intro hg13;(try simp only [dn] at hg13);refine a1 ?_;refine zA3 (zA1 [_,_] rfl rfl call219 rfl (qX4 c [33] σ hr _ (hC.k1 st.chg) (by exact st.rs 2)) ?_);rintro _ w ⟨rfl,cw⟩;replace st:=st.call0 cw;refine a1 ?_;refine vmb ?_ ?_;intro hg17;(try simp only [dn] at hg17);refine a8 ?_;refine zB8 (decide ((64:Int)≤(d:Int))) ⟨rfl,rfl,rfl,rfl,rfl,trivial⟩ st ?_;show _=_;have hi:zF σ.r=true:=by unfold zF;rw [hg17];simp
 rw [hi,Bool.true_and,Bool.eq_iff_iff];simp only [decide_eq_true_eq];omega;intro hg17;(try simp only [dn] at hg17);refine a1 ?_;refine zA3 (zA1 [_,_] rfl rfl call219 rfl (qX4 c [40] σ hr _ (hC.k1 st.chg) (by exact st.rs 2)) ?_);rintro _ w ⟨rfl,cw⟩;replace st:=st.call0 cw;refine a1 ?_;refine vmb ?_ ?_;intro hg21;(try simp only [dn] at hg21);refine a4 ?_;refine zB8 (decide ((64:Int)≤(d:Int))) ⟨rfl,rfl,rfl,rfl,rfl,trivial⟩ st ?_;show _=_;have hi:zF σ.r=true:=by unfold zF;rw [hg21];simp
 rw [hi,Bool.true_and,Bool.eq_iff_iff];simp only [decide_eq_true_eq];omega;intro hg21;(try simp only [dn] at hg21);refine a4 ?_;refine zB8 false ⟨rfl,rfl,rfl,rfl,rfl,trivial⟩ st ?_;show _=_;have hi:zF σ.r=false:=by unfold zF;simp_all
 rw [hi];rfl;clear st;rintro b w hb st;refine vif ?_ ?_;intro hc24;(try simp only [dn] at hc24);have hb2:(zF σ.r && decide (64≤d))=true:=by rw [← hb];exact hc24
 simp only [Bool.and_eq_true,decide_eq_true_eq] at hb2;obtain rfl:m=0:=by omega
 refine a2 ?_;refine zA3 (zA1 [_,_] rfl rfl call222 rfl (zW7 c 3 σ hr _ (hC.k1 st.chg) (by exact st.rs 2)) ?_);rintro _ w ⟨rfl,hP1,cw⟩;replace st:=St.prs (b:=c.rb) st 2 rfl cw (.inl (.head _)) hP1;dsimp only [zA0] at st;refine a6 ?_;refine zA3 (zA1 [_] rfl rfl call140 rfl (zR5 c (zY8 c.e 3 σ) (by rw [zU5];exact hr) _ (hC.k1 st.chg) (by exact st.rs 2)) ?_);rintro _ w ⟨rfl,cw⟩;replace st:=st.call0 cw;refine a3 ?_;refine vif ?_ ?_;intro hc29;(try simp only [dn] at hc29);refine a2 ?_;refine vy (ybd (.agg #[_,_,_,_,_,_]) []) ?_;refine zA3 (zC4 st 1 [_,_,_,_,_,_] qZ42 ?_);intro w st;dsimp only [zA0,wr] at st;refine a4 ?_;refine zB7 st (.inl rfl) results262 (by exact .cell 1 rfl rfl qA42 qZ42) ?_;refine⟨_,rfl,?_⟩;exact⟨ex0,_,ParS.qP4 hb2.1 ex0,by rw [zU5];exact List.suffix_refl _,(by exact st.rs 2),st.chg,none,0,[],rfl,qC6,Nw.nil⟩;intro hc29;exfalso;have:=zO8 (e:=c.e) (k:=3) (σ:=σ) (by decide);simp [this] at hc29;intro hc24;(try simp only [dn] at hc24);have hb:(zF σ.r && decide (64≤d))=false:=by rw [← hb];exact hc24
 refine a6 ?_;refine zA3 (zA1 [_] rfl rfl call140 rfl (zR5 c σ hr _ (hC.k1 st.chg) (by exact st.rs 2)) ?_);rintro _ w ⟨rfl,cw⟩;replace st:=st.call0 cw;refine a3 ?_;refine vif ?_ ?_;intro hc29;(try simp only [dn] at hc29);have ho:¬ σ.ok:=by simpa using hc29
 refine a2 ?_;refine vy (ybd (.agg #[_,_,_,_,_,_]) []) ?_;refine zA3 (zC4 st 1 [_,_,_,_,_,_] qZ42 ?_);intro w st;dsimp only [zA0,wr] at st;refine a4 ?_;refine zB7 st (.inl rfl) results262 (by exact .cell 1 rfl rfl qA42 qZ42) ?_;refine⟨_,rfl,?_⟩;exact⟨ex0,σ,.bad ho ex0,List.suffix_refl _,(by exact st.rs 2),st.chg,none,0,[],rfl,qC6,Nw.nil⟩;intro hc29;(try simp only [dn] at hc29);have ho:σ.ok:=by simpa using hc29
 refine a6 ?_;refine vy (zC3 rfl qU118 rfl rfl qZ116 rfl) ?_;refine yl st 0 qA116 ?_;refine a4 ?_;refine vif ?_ ?_;intro hc31;(try simp only [dn] at hc31);have hk:(here σ.r).kind=3:=by rw [zK4] at hc31;omega
 have hne:=zN7 hk (by decide);have htl:=zC2 hne;have ht2:σ.r.tail.length=σ.r.length - 1:=List.length_tail;refine a4 ?_;refine yfz 1 qU168 qZ3 ?_;refine yl st 2 qA3 ?_;refine vy (yin ((c.ts.length - σ.r.tail.length:Nat):Int)) ?_;refine a1 ?_;refine yfz 1 qU168 qZ3 ?_;refine zA3 (est st 2 qZ3 ?_);intro w st;dsimp only [zA0,wr] at st;refine a4 ?_;refine yfz 2 qU118 qZ2 ?_;refine yl st 0 qA2 ?_;refine yfz 3 qU118 qZ3 ?_;refine yl st 0 qA3 ?_;refine vy (ybd (.agg #[_,_,_,_,_,_]) [(0,_),(2,_),(5,_)]) ?_;refine zA3 (zC4 st 1 [_,_,_,_,_,_] qZ42 ?_);intro w st;dsimp only [zA0,wr] at st;refine a5 ?_;refine zB7 st (.inl rfl) results262 (by exact .cell 1 rfl rfl qA42 qZ42) ?_;refine⟨_,rfl,?_⟩;refine⟨_,⟨σ.r.tail,σ.f⟩,kS2 ho hk,List.tail_suffix _,(by exact st.rs 2),st.chg,none,0,[],?_,qC6,Nw.nil⟩;rw [zQ6 hne];rfl;intro hc31;(try simp only [dn] at hc31);have hk3:(here σ.r).kind≠3:=by rw [zK4] at hc31;omega
 refine a2 ?_;refine vy (zC3 rfl qU118 rfl rfl qZ116 rfl) ?_;refine yl st 0 qA116 ?_;refine a4 ?_;refine vif ?_ ?_;intro hc47;(try simp only [dn] at hc47);have hk:(here σ.r).kind=1:=by rw [zK4] at hc47;omega
 have hne:=zN7 hk (by decide);have htl:=zC2 hne;have ht2:σ.r.tail.length=σ.r.length - 1:=List.length_tail;refine a4 ?_;refine yfz 1 qU168 qZ3 ?_;refine yl st 2 qA3 ?_;refine vy (yin ((c.ts.length - σ.r.tail.length:Nat):Int)) ?_;refine a1 ?_;refine yfz 1 qU168 qZ3 ?_;refine zA3 (est st 2 qZ3 ?_);intro w st;dsimp only [zA0,wr] at st;refine a4 ?_;refine yfz 1 qU118 qZ9 ?_;refine yl st 0 qA9 ?_;refine yfz 3 qU118 qZ3 ?_;refine yl st 0 qA3 ?_;refine vy (ybd (.agg #[_,_,_,_,_,_]) [(0,_),(3,_),(5,_)]) ?_;refine zA3 (zC4 st 1 [_,_,_,_,_,_] qZ42 ?_);intro w st;dsimp only [zA0,wr] at st;refine a5 ?_;refine zB7 st (.inl rfl) results262 (by exact .cell 1 rfl rfl qA42 qZ42) ?_;refine⟨_,rfl,?_⟩;refine⟨_,⟨σ.r.tail,σ.f⟩,kC5 ho hk,List.tail_suffix _,(by exact st.rs 2),st.chg,none,0,[],?_,qC6,Nw.nil⟩;rw [zQ6 hne];rfl;intro hc47;(try simp only [dn] at hc47);have hk1:(here σ.r).kind≠1:=by rw [zK4] at hc47;omega
 refine a3 ?_;refine zA3 (zA1 [_,_] rfl rfl call175 rfl (zH2 c [40] σ hr _ (hC.k1 st.chg) (by exact st.rs 2)) ?_);rintro _ w ⟨rfl,hP1,cw⟩;replace st:=St.prs (b:=c.rb) st 2 rfl cw (.inl (.head _)) hP1;dsimp only [zA0] at st;refine a3 ?_;refine vif ?_ ?_;intro hc63;(try simp only [dn] at hc63);have hT:zC7 [40] σ=true:=hc63;have hti:=(zC8 hT).2;have hne:=zI5 hti;have htl:=zC2 hne;have hin:zF σ.r=true:=by unfold zF;rw [hti];simp
 have hm:¬ 64≤d:=fun h=>by rw [hin] at hb;simp [h] at hb
 obtain⟨m,rfl⟩:∃ k,m=k+1:=⟨m - 1,by omega⟩
 have hlen:=hn ho;rw [zH6 hT] at st;have hrt:(RS.mk σ.r.tail σ.f).r <:+ c.ts:=(List.tail_suffix _).trans hr;refine a4 ?_;refine vy (yin ((d+1:Nat):Int)) ?_;refine zA3 (zA1 [_,_,_] rfl rfl call256 rfl (hE σ.r.tail.length (by omega) m (d+1) (by omega) 1 (by omega) (by omega) ⟨σ.r.tail,σ.f⟩ hrt (fun _=>Nat.le_refl _) _ (hC.k1 st.chg) (by exact st.rs 2)) ?_);rintro _ w ⟨x,σ2,hD,hsf,hP1,cw,ox,cx,Sx,rfl,hQ,hN⟩;have hNSx:=hN.le st.chg.size;replace st:=St.prsT (b:=c.rb) st 2 rfl cw (.inl (.head _)) hP1 (zF9 hQ) hN.2;dsimp only [zA0] at st;refine zA3 (zF8 (l:=[_,_,_,_,_,_]) st rfl rfl qV42 rfl ?_);intro b6 w hb6 st;refine zA3 (zC4 st 0 [_,_,_,_,_,_] qZ42 ?_);intro w st;dsimp only [zA0,wr] at st;refine a5 ?_;refine zA3 (zA1 [_,_] rfl rfl call223 rfl (zG2 c [41] σ2 (hsf.trans hrt) _ (hC.k1 st.chg) (by exact st.rs 4)) ?_);rintro _ w ⟨rfl,hP1,cw⟩;replace st:=St.prs (b:=c.rb) st 4 rfl cw (.inl (.head _)) hP1;dsimp only [zA0] at st;refine a4 ?_;refine yla st 0 [_,_,_,_,_,_] qA42 qZ42 ?_;refine zA3 (zC4 st 3 [_,_,_,_,_,_] qZ42 ?_);intro w st;dsimp only [zA0,wr] at st;refine a5 ?_;refine zB7 st (.inl rfl) results262 (by exact .cell 3 rfl rfl qA42 qZ42) ?_;refine⟨_,rfl,?_⟩;exact⟨x,zF3 c.e [41] σ2,ParS.gA9 hT hD,wantR_suf.trans (hsf.trans (List.tail_suffix _)),(by exact st.rs 4),st.chg,ox,cx,Sx,rfl,(by exact(st.res (i:=1) rfl).1),hNSx⟩;intro hc63;(try simp only [dn] at hc63);have hF40:zC7 [40] σ=false:=hc63;rw [zG9 hF40] at st;refine a3 ?_;refine zA3 (zA1 [_,_] rfl rfl call175 rfl (zH2 c [45] σ hr _ (hC.k1 st.chg) (by exact st.rs 2)) ?_);rintro _ w ⟨rfl,hP1,cw⟩;replace st:=St.prs (b:=c.rb) st 2 rfl cw (.inl (.head _)) hP1;dsimp only [zA0] at st;refine a3 ?_;refine vif ?_ ?_;intro hc73;(try simp only [dn] at hc73);have hT:zC7 [45] σ=true:=hc73;have hti:=(zC8 hT).2;have hne:=zI5 hti;have htl:=zC2 hne;have hin:zF σ.r=true:=by unfold zF;rw [hti];simp
 have hm:¬ 64≤d:=fun h=>by rw [hin] at hb;simp [h] at hb
 obtain⟨m,rfl⟩:∃ k,m=k+1:=⟨m - 1,by omega⟩
 have hlen:=hn ho;rw [zH6 hT] at st;have hrt:(RS.mk σ.r.tail σ.f).r <:+ c.ts:=(List.tail_suffix _).trans hr;refine a4 ?_;refine vy (yin ((d+1:Nat):Int)) ?_;refine zA3 (zA1 [_,_] rfl rfl call262 rfl (hU σ.r.tail.length (by omega) m (d+1) (by omega) ⟨σ.r.tail,σ.f⟩ hrt (fun _=>Nat.le_refl _) _ (hC.k1 st.chg) (by exact st.rs 2)) ?_);rintro _ w ⟨x,σ2,hD,hsf,hP1,cw,ox,cx,Sx,rfl,hQ,hN⟩;have hNSx:=hN.le st.chg.size;replace st:=St.prsT (b:=c.rb) st 2 rfl cw (.inl (.head _)) hP1 (zF9 hQ) hN.2;dsimp only [zA0] at st;refine zA3 (zF8 (l:=[_,_,_,_,_,_]) st rfl rfl qV42 rfl ?_);intro b7 w hb7 st;refine zA3 (zC4 st 0 [_,_,_,_,_,_] qZ42 ?_);intro w st;dsimp only [zA0,wr] at st;refine a4 ?_;refine yla st 0 [_,_,_,_,_,_] qA42 qZ42 ?_;refine zA3 (zI4 (l:=[_,_,_,_,_,_]) st rfl rfl rfl rfl qU40 qZ42 rfl rfl rfl qV42 ?_);intro b81 w hb81 st;refine yfz 3 qU118 qZ3 ?_;refine yl st 3 qA3 ?_;refine vy (ybd (.agg #[_,_,_,_,_,_]) [(0,_),(1,_),(4,_),(5,_)]) ?_;refine zA3 (zC4 st 4 [_,_,_,_,_,_] qZ42 ?_);intro w st;dsimp only [zA0,wr] at st;refine a5 ?_;refine zB7 st (.inl rfl) results262 (by exact .cell 4 rfl rfl qA42 qZ42) ?_;refine⟨_,rfl,?_⟩;refine⟨_,σ2,gC8 (.inl ⟨rfl,rfl⟩) hT hD,hsf.trans (List.tail_suffix _),(by exact st.rs 5),st.chg,some ⟨b81,0,none⟩,1,b81::Sx,?_,qE7 (st.res (i:=0) rfl) (by exact(st.res (i:=2) rfl).1),Nw.app (S:=[b81]) ⟨by simp,by simpa using hb81⟩ hNSx (fun b hb hb'=>(by exact st.ne (i:=0) (j:=2) (by decide) rfl rfl b hb hb'))⟩;rw [zQ6 hne];rfl;intro hc73;(try simp only [dn] at hc73);have hF45:zC7 [45] σ=false:=hc73;rw [zG9 hF45] at st;refine a3 ?_;refine zA3 (zA1 [_,_] rfl rfl call175 rfl (zH2 c [33] σ hr _ (hC.k1 st.chg) (by exact st.rs 2)) ?_);rintro _ w ⟨rfl,hP1,cw⟩;replace st:=St.prs (b:=c.rb) st 2 rfl cw (.inl (.head _)) hP1;dsimp only [zA0] at st;refine a3 ?_;refine vif ?_ ?_;intro hc85;(try simp only [dn] at hc85);have hT:zC7 [33] σ=true:=hc85;have hti:=(zC8 hT).2;have hne:=zI5 hti;have htl:=zC2 hne;have hin:zF σ.r=true:=by unfold zF;rw [hti];simp
 have hm:¬ 64≤d:=fun h=>by rw [hin] at hb;simp [h] at hb
 obtain⟨m,rfl⟩:∃ k,m=k+1:=⟨m - 1,by omega⟩
 have hlen:=hn ho;rw [zH6 hT] at st;have hrt:(RS.mk σ.r.tail σ.f).r <:+ c.ts:=(List.tail_suffix _).trans hr;refine a4 ?_;refine vy (yin ((d+1:Nat):Int)) ?_;refine zA3 (zA1 [_,_] rfl rfl call262 rfl (hU σ.r.tail.length (by omega) m (d+1) (by omega) ⟨σ.r.tail,σ.f⟩ hrt (fun _=>Nat.le_refl _) _ (hC.k1 st.chg) (by exact st.rs 2)) ?_);rintro _ w ⟨x,σ2,hD,hsf,hP1,cw,ox,cx,Sx,rfl,hQ,hN⟩;have hNSx:=hN.le st.chg.size;replace st:=St.prsT (b:=c.rb) st 2 rfl cw (.inl (.head _)) hP1 (zF9 hQ) hN.2;dsimp only [zA0] at st;refine zA3 (zF8 (l:=[_,_,_,_,_,_]) st rfl rfl qV42 rfl ?_);intro b8 w hb8 st;refine zA3 (zC4 st 0 [_,_,_,_,_,_] qZ42 ?_);intro w st;dsimp only [zA0,wr] at st;refine a4 ?_;refine yla st 0 [_,_,_,_,_,_] qA42 qZ42 ?_;refine zA3 (zI4 (l:=[_,_,_,_,_,_]) st rfl rfl rfl rfl qU40 qZ42 rfl rfl rfl qV42 ?_);intro b93 w hb93 st;refine yfz 3 qU118 qZ3 ?_;refine yl st 3 qA3 ?_;refine vy (ybd (.agg #[_,_,_,_,_,_]) [(0,_),(1,_),(4,_),(5,_)]) ?_;refine zA3 (zC4 st 4 [_,_,_,_,_,_] qZ42 ?_);intro w st;dsimp only [zA0,wr] at st;refine a5 ?_;refine zB7 st (.inl rfl) results262 (by exact .cell 4 rfl rfl qA42 qZ42) ?_;refine⟨_,rfl,?_⟩;refine⟨_,σ2,gC8 (.inr ⟨rfl,rfl⟩) hT hD,hsf.trans (List.tail_suffix _),(by exact st.rs 5),st.chg,some ⟨b93,0,none⟩,1,b93::Sx,?_,qE7 (st.res (i:=0) rfl) (by exact(st.res (i:=2) rfl).1),Nw.app (S:=[b93]) ⟨by simp,by simpa using hb93⟩ hNSx (fun b hb hb'=>(by exact st.ne (i:=0) (j:=2) (by decide) rfl rfl b hb hb'))⟩;rw [zQ6 hne];rfl;intro hc85;(try simp only [dn] at hc85);have hF33:zC7 [33] σ=false:=hc85;rw [zG9 hF33] at st;have hin:zF σ.r=false:=by unfold zF;rw [← zG4 ho,← zG4 ho,← zG4 ho,hF40,hF45,hF33];rfl
 refine a6 ?_;refine zA3 (zA1 [_,_] rfl rfl call222 rfl (zW7 c 2 σ hr _ (hC.k1 st.chg) (by exact st.rs 2)) ?_);rintro _ w ⟨rfl,hP1,cw⟩;replace st:=St.prs (b:=c.rb) st 2 rfl cw (.inl (.head _)) hP1;dsimp only [zA0] at st;refine a4 ?_;refine vy (ybd (.agg #[_,_,_,_,_,_]) []) ?_;refine zA3 (zC4 st 1 [_,_,_,_,_,_] qZ42 ?_);intro w st;dsimp only [zA0,wr] at st;refine a3 ?_;refine zB7 st (.inl rfl) results262 (by exact .cell 1 rfl rfl qA42 qZ42) ?_;refine⟨_,rfl,?_⟩;exact⟨ex0,zY8 c.e 2 σ,kC2 hin hk3 hk1 ex0,by rw [zU5];exact List.suffix_refl _,(by exact st.rs 2),st.chg,none,0,[],rfl,qC6,Nw.nil⟩
set_option maxHeartbeats 1000000 in
theorem kY4 (c:RCtx) (n:Nat) (hU:UR c n) (hE:∀ k,k<n→ER c k):ER c n:=by
 intro m d hd lv hlv0 hlv1 σ hr hn w hC hP;refine zB [_,_,_] func256 rfl ntmps256 rfl ?_;obtain⟨w0,rfl⟩:∃ w0,w0=w:=⟨_,rfl⟩
 have hP':=hP;dsimp only [RAt,zQ4] at hP;have st:=St.of1 [c.rb] hP;have h20:=hC.len;have hl:=zB6 hr;refine a2 ?_;refine zA3 (zF8 (l:=[_,_,_,_,_,_]) st rfl rfl qV42 rfl ?_);intro b6 w hb6 st;refine a6 ?_;refine zA3 (zA1 [_,_] rfl rfl call262 rfl (hU m d hd σ hr hn _ (hC.k1 st.chg) (by exact st.rs 1)) ?_);rintro _ w ⟨x0,σ0,hD,hsf,hP1,cw,ox0,cx0,Sx0,rfl,hQ,hN⟩;have hNSx0:=hN.le st.chg.size;replace st:=St.prsT (b:=c.rb) st 1 rfl cw (.inl (.head _)) hP1 (zF9 hQ) hN.2;dsimp only [zA0] at st
 have hlen0:σ0.ok→σ0.r.length<σ.r.length:=fun ho=>by
  obtain⟨a1,a2⟩:=hD.ok_inv ho
  exact zI3 _ _ _ _ _ a2
 have hok0:σ0.ok→σ.ok:=fun ho=>(hD.ok_inv ho).1
 have hG0:=gR2 (lv:=lv) hD;refine zA3 (zF8 (l:=[_,_,_,_,_,_]) st rfl rfl qV42 rfl ?_);intro b7 w hb7 st;refine zA3 (zC4 st 0 [_,_,_,_,_,_] qZ42 ?_);intro w st;dsimp only [zA0,wr] at st;refine a4 ?_;refine zC (w0:=w0) (M:=[c.rb]) (fun (y:RSt)=>[(0,.pointer (some ⟨c.rb,0,none⟩)),(1,.int .i64 lv),(2,.int .i64 (d:Int)),(6,.pointer (some ⟨b6,0,none⟩)),(7,.pointer (some ⟨b7,0,none⟩))]) (fun (y:RSt)=>[.blk b7 (.cells (exC y.x y.ox y.cx).toArray 42 (0,0)),.tree y.Sx (fun w=>ExR 42 w y.ox y.cx y.x.kids y.Sx),.blk b6 (.cells ex00.toArray 42 (0,0)),.blk c.rb (.cells (zQ4 c y.σ).toArray c.T (0,0))]) (fun (y:RSt) _=>y.σ.r <:+ σ.r∧(y.σ.ok→y.σ.r.length<n)∧y.σ.r.length<y.k∧Nw w0.heap.size y.Sx∧run (zV0 (zC1 c.e m) lv) σ=run (zK8 (zC1 c.e m) y.k lv y.x) y.σ) (fun (y:RSt)=>y.σ.r.length) ⟨x0,σ0,σ0.r.length+1,ox0,cx0,Sx0⟩ ⟨rfl,rfl,rfl,rfl,rfl,trivial⟩ (st.pick [0,1,2,3] rfl (by decide)) ⟨hsf,fun ho=>by have:=hlen0 ho;have:=hn (hok0 ho);dsimp only;omega,by dsimp only;omega,hNSx0,hG0⟩ ?_;clear st hD hG0 hlen0 hok0 hsf hP1;rintro ⟨x,σ1,k,ox,cx,Sx⟩ w ⟨hsf1,hlt1,hk1,hSx,hG⟩ st;dsimp only at hsf1 hlt1 hk1 hSx hG st;have hr1:=hsf1.trans hr;obtain⟨k,rfl⟩:∃ j,k=j+1:=⟨k - 1,by omega⟩
 refine a4 ?_;refine zA3 (zA1 [_] rfl rfl call140 rfl (zR5 c σ1 hr1 _ (hC.k1 st.chg) (by exact st.rs 3)) ?_);rintro _ w ⟨rfl,cw⟩;replace st:=st.call0 cw;refine a2 ?_;refine vif ?_ ?_;intro hc16;(try simp only [dn] at hc16);have ho:σ1.ok:=by simpa using hc16
 have hl1:=zB6 hr1;refine a6 ?_;refine zA3 (zA1 [_] rfl rfl call221 rfl (zX c σ1 hr1 _ (hC.k1 st.chg) (by exact st.rs 3)) ?_);rintro _ w ⟨rfl,cw⟩;replace st:=st.call0 cw;refine zA3 (zF8 (l:=[_,_,_,_]) st rfl rfl qV118 rfl ?_);intro b8 w hb8 st;refine zA3 (zC4 st 0 [_,_,_,_] qZ118 ?_);intro w st;dsimp only [zA0,wr] at st;refine a4 ?_;refine yfz 1 qU118 qZ9 ?_;refine yl st 0 qA9 ?_;refine zA3 (zA1 [_] rfl rfl call263 rfl (kK6 (zZ6 c.e σ1.r).text _) ?_);rintro _ w ⟨rfl,cw⟩;replace st:=st.call0 cw;refine a10 ?_;refine vy (zC3 rfl qU118 rfl rfl qZ116 rfl) ?_;refine yl st 0 qA116 ?_;refine a1 ?_;refine vmb ?_ ?_;intro hg28;(try simp only [dn] at hg28);refine a16 ?_;refine a4 ?_;refine yla st 1 [_,_,_,_,_,_] qA42 qZ42 ?_;refine zA3 (zC4 st 3 [_,_,_,_,_,_] qZ42 ?_);intro w st;dsimp only [zA0,wr] at st;refine a3 ?_;refine zB7 st (.inl rfl) results256 (by exact .cell 3 rfl rfl qA42 qZ42) ?_;refine⟨_,rfl,?_⟩;refine⟨x,σ1,?_,hsf1,(by exact st.rs 4),st.chg,ox,cx,Sx,rfl,(by exact(st.res (i:=2) rfl).1),hSx⟩;rw [hG];refine gG5 fun o hop=>?_
 rw [zW1,zK4] at *;unfold opT at hop;split at hop;rename_i hk4;exact absurd hk4 (by omega);cases hop;intro hg28;(try simp only [dn] at hg28);refine a3 ?_;refine vmb ?_ ?_;intro hg32;(try simp only [dn] at hg32);refine a16 ?_;refine yla st 1 [_,_,_,_,_,_] qA42 qZ42 ?_;refine zA3 (zC4 st 3 [_,_,_,_,_,_] qZ42 ?_);intro w st;dsimp only [zA0,wr] at st;refine a3 ?_;refine zB7 st (.inl rfl) results256 (by exact .cell 3 rfl rfl qA42 qZ42) ?_;refine⟨_,rfl,?_⟩;refine⟨x,σ1,?_,hsf1,(by exact st.rs 4),st.chg,ox,cx,Sx,rfl,(by exact(st.res (i:=2) rfl).1),hSx⟩;rw [hG];refine gG5 fun o hop=>?_
 rw [zW1,zK4] at *;unfold opT at hop;split at hop;rw [hop] at hg32;cases hg32;cases hop;intro hg32;(try simp only [dn] at hg32);refine a1 ?_;refine zA3 (zA1 [_] rfl rfl call250 rfl (qA7 (((zN9 (zZ6 c.e σ1.r).text).getD 0):Nat) (by omega) _) ?_);rintro _ w ⟨rfl,cw⟩;replace st:=st.call0 cw;have hl9:=kP ((zN9 (zZ6 c.e σ1.r).text).getD 0);have hl0:=kM4 ((zN9 (zZ6 c.e σ1.r).text).getD 0);refine a5 ?_;refine vif ?_ ?_;intro hc37;(try simp only [dn] at hc37);refine a8 ?_;refine yla st 1 [_,_,_,_,_,_] qA42 qZ42 ?_;refine zA3 (zC4 st 3 [_,_,_,_,_,_] qZ42 ?_);intro w st;dsimp only [zA0,wr] at st;refine a3 ?_;refine zB7 st (.inl rfl) results256 (by exact .cell 3 rfl rfl qA42 qZ42) ?_;refine⟨_,rfl,?_⟩;refine⟨x,σ1,?_,hsf1,(by exact st.rs 4),st.chg,ox,cx,Sx,rfl,(by exact(st.res (i:=2) rfl).1),hSx⟩;rw [hG];refine gG5 fun o hop=>?_
 rw [zW1,zK4] at *;unfold opT at hop;split at hop;rw [hop] at hc37;exact hc37;cases hop;intro hc37;(try simp only [dn] at hc37)
 have hop:opT (here σ1.r)=some ((zN9 (zZ6 c.e σ1.r).text).getD 0):=by
  have hk4:(here σ1.r).kind=4:=by rw [zK4] at *;omega
  unfold opT
  rw [if_pos hk4]
  cases hf:zN9 (here σ1.r).text with
  | none=>rw [zW1] at *;simp [hf] at *
  | some o=>rw [zW1,hf];rfl
 have hne1:=qS1 hop;have htl1:=zC2 hne1;have ht2:σ1.r.tail.length=σ1.r.length - 1:=List.length_tail;have hlvl:lv≤zI8 (((zN9 (zZ6 c.e σ1.r).text).getD 0):Nat):=by omega
 refine a6 ?_;refine yfz 1 qU168 qZ3 ?_;refine yl st 4 qA3 ?_;refine vy (yin ((c.ts.length - σ1.r.tail.length:Nat):Int)) ?_;refine a1 ?_;refine yfz 1 qU168 qZ3 ?_;refine zA3 (est st 4 qZ3 ?_);intro w st;dsimp only [zA0,wr] at st;refine a6 ?_;refine zA3 (zA1 [_] rfl rfl call250 rfl (qA7 (((zN9 (zZ6 c.e σ1.r).text).getD 0):Nat) (by omega) _) ?_);rintro _ w ⟨rfl,cw⟩;replace st:=st.call0 cw;have hl9:=kP ((zN9 (zZ6 c.e σ1.r).text).getD 0);have hl0:=kM4 ((zN9 (zZ6 c.e σ1.r).text).getD 0);refine vy (zK2 rfl rfl rfl (by omega) (by omega)) ?_;refine a1 ?_;refine zA3 (zA1 [_,_,_] rfl rfl call256 rfl (hE σ1.r.length (hlt1 ho) m d hd (zI8 (((zN9 (zZ6 c.e σ1.r).text).getD 0):Nat)+1) (by omega) (by omega) ⟨σ1.r.tail,σ1.f⟩ ((List.tail_suffix _).trans hr1) (fun _=>by dsimp only;omega) _ (hC.k1 st.chg) (by exact st.rs 4)) ?_);rintro _ w ⟨z,σ2,hD,hsf,hP1,cw,oz,cz,Sz,rfl,hQ,hN⟩;have hNSz:=hN.le st.chg.size;replace st:=St.prsT (b:=c.rb) st 4 rfl cw (.inl (.head _)) hP1 (zF9 hQ) hN.2;dsimp only [zA0] at st;refine zA3 (zF8 (l:=[_,_,_,_,_,_]) st rfl rfl qV42 rfl ?_);intro b11 w hb11 st;refine zA3 (zC4 st 0 [_,_,_,_,_,_] qZ42 ?_);intro w st;dsimp only [zA0,wr] at st;refine a4 ?_;refine yla st 3 [_,_,_,_,_,_] qA42 qZ42 ?_;refine yla st 0 [_,_,_,_,_,_] qA42 qZ42 ?_;refine zA3 (zY7 (l:=exC x ox cx++exC z oz cz) (E:=42) st [(0,_),(1,_)] rfl rfl rfl (fun w=>by simp [Instr.buildSlice,run_underlying qU40,qZ42,qV42,Instr.fill,newRow,newObj,Sem.run,go_sem,Value.cells]) ?_);intro b54 w hb54 st;refine yfz 3 qU118 qZ3 ?_;refine yl st 3 qA3 ?_;refine vy (ybd (.agg #[_,_,_,_,_,_]) [(0,_),(1,_),(4,_),(5,_)]) ?_;refine zA3 (zC4 st 4 [_,_,_,_,_,_] qZ42 ?_);intro w st;dsimp only [zA0,wr] at st;refine a2 ?_
 refine zA7 ⟨gB2 ((zN9 (zZ6 c.e σ1.r).text).getD 0) (zZ6 c.e σ1.r).at_ x z,σ2,k,some ⟨b54,0,none⟩,2,b54::(Sx++Sz)⟩  ⟨rfl,rfl,rfl,rfl,rfl,trivial⟩ (by
   have hE2:=kL2 (st.res (i:=0) rfl) (st.res (i:=5) rfl).1 (st.res (i:=2) rfl).1
   exact(((st.pick [0,5,2,4,6,7] rfl (by decide)).joinN 3 (q:=.tree (b54::(Sx++Sz)) fun w=>ExR 42 w (some ⟨b54,0,none⟩) 2 [x,z] (b54::(Sx++Sz))) (fun k hk=>by
     rcases List.mem_cons.1 hk with rfl|hk
     · exact⟨_,.head _,.head _⟩
     · rcases List.mem_append.1 hk with h|h
       · exact⟨_,.tail _ (.head _),h⟩
       · exact⟨_,.tail _ (.tail _ (.head _)),h⟩) (zF9 hE2))).pick [1,0,2,3] rfl (by decide)) ?_ ?_
 refine⟨hsf.trans ((List.tail_suffix _).trans hsf1),fun ho2=>by have:=hlt1 ho;have:=zB6 hsf;dsimp only at *;omega,by have:=zB6 hsf;dsimp only at *;omega,?_,?_⟩;refine Nw.app (S:=[b54]) ⟨by simp,by simpa using hb54⟩ (hSx.app hNSz (st.ne (i:=5) (j:=2) (by decide) rfl rfl)) (fun b hb hb'=>?_);rcases List.mem_append.1 hb' with h|h;exact st.ne (i:=0) (j:=5) (by decide) rfl rfl b hb h;exact st.ne (i:=0) (j:=2) (by decide) rfl rfl b hb h;rw [hG,zQ6 hne1];rw [zQ6 hne1] at hop hlvl hD;exact kH9 (zI3 c.e m) ho hop hlvl hk1 hD;have:=zB6 hsf;dsimp only at *;omega;intro hc16;(try simp only [dn] at hc16);have ho:¬ σ1.ok:=by simpa using hc16
 refine a7 ?_;refine yla st 0 [_,_,_,_,_,_] qA42 qZ42 ?_;refine zA3 (zC4 st 2 [_,_,_,_,_,_] qZ42 ?_);intro w st;dsimp only [zA0,wr] at st;refine a3 ?_;refine zB7 st (.inl rfl) results256 (by exact .cell 2 rfl rfl qA42 qZ42) ?_;refine⟨_,rfl,?_⟩;exact⟨x,σ1,by rw [hG];exact .bad ho x,hsf1,(by exact st.rs 3),st.chg,ox,cx,Sx,rfl,(by exact(st.res (i:=1) rfl).1),hSx⟩
theorem kE5 (c:RCtx):∀ n,UR c n∧ER c n:=fun n=>by
 induction n using Nat.strongRecOn with
 | _ n ih=>
  have hU:=kL8 c n (fun k hk=>(ih k hk).1) (fun k hk=>(ih k hk).2)
  exact⟨hU,kY4 c n hU (fun k hk=>(ih k hk).2)⟩
end Go.Proofs.YtnmhlpnapgojjaaGreatDoor.Pq
