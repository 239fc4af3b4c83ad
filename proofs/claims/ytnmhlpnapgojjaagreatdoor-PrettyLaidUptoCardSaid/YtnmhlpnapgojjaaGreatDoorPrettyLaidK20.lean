/- A part of the proof: contracts of functions and plain laws; each theorem says its own conditions. -/
import Derived.Test.YtnmhlpnapgojjaaGreatDoorPrettyLaidAl
import Derived.Test.YtnmhlpnapgojjaaGreatDoorPrettyLaidK19
import Derived.Test.YtnmhlpnapgojjaaGreatDoorPrettyLaidK16
import Derived.Test.YtnmhlpnapgojjaaGreatDoorPrettyLaidK15
import Derived.Test.YtnmhlpnapgojjaaGreatDoorPrettyLaidK1
import Derived.Test.YtnmhlpnapgojjaaGreatDoorPrettyLaidK17
import Derived.Test.YtnmhlpnapgojjaaGreatDoorPrettyLaidK13
import Derived.Test.YtnmhlpnapgojjaaGreatDoorPrettyLaidK3
import Derived.Test.YtnmhlpnapgojjaaGreatDoorPrettyLaidK2
import Derived.Test.YtnmhlpnapgojjaaGreatDoorPrettyLaidK6
import Derived.Test.YtnmhlpnapgojjaaGreatDoorPrettyLaidK10
import Derived.Test.YtnmhlpnapgojjaaGreatDoorPrettyLaidK11
import Derived.Test.YtnmhlpnapgojjaaGreatDoorPrettyLaidK12
set_option linter.unusedVariables false
set_option linter.unusedSimpArgs false
/- A program's text that is printed is cut into its tokens,and parsed as it was,but for places. -/
namespace ParS
open Sx LexS
theorem c_eq (Z:List UInt8):Lx [32,61,32] [sgT [61]] Z:=(Lx.sp _).app ((gU (c:=61) (Z:=[32]++Z) (by decide) (fun d r e=>by cases e;decide)).app (Lx.sp Z))
theorem gK7 (Z:List UInt8):Lx [59,10] [sgT [59]] Z:=(qL9 (c:=59) _ (by decide) (by decide)).app (Lx.lf Z)
theorem gX6 (Z:List UInt8):Lx [32,123,10] [sgT [123]] Z:=(Lx.sp _).app ((qL9 (c:=123) _ (by decide) (by decide)).app (Lx.lf Z))
theorem gS9 (Z:List UInt8):Lx [41,32,123,10] [sgT [41],sgT [123]] Z:=(qL9 (c:=41) _ (by decide) (by decide)).app (gX6 Z)
theorem kS9 (Z:List UInt8):Lx [125,10] [sgT [125]] Z:=(qL9 (c:=125) _ (by decide) (by decide)).app (Lx.lf Z)
theorem gT2 {w:List UInt8} (h:zP0 w=true) (Z:List UInt8):Lx (w++[32]) [wdT w] Z:=(qP6 h (NI.cons (by decide) _)).app (Lx.sp Z)
theorem jL3 (Z:List UInt8):Lx [125,32,101,108,115,101,32,123,10] [sgT [125],wdT zS6,sgT [123]] Z:=
  (qL9 (c:=125) _ (by decide) (by decide)).app ((Lx.sp _).app ((qP6 (t:=zS6) (by decide) (NI.cons (by decide) _)).app (gX6 Z)))
theorem c_if (Z:List UInt8):Lx [105,102,32,40] [wdT wIf,sgT [40]] Z:=(qP6 (t:=wIf) (by decide) (NI.cons (by decide) _)).app ((Lx.sp _).app (qL9 (c:=40) Z (by decide) (by decide)))
theorem jE1 (Z:List UInt8):Lx [119,104,105,108,101,32,40] [wdT zH,sgT [40]] Z:=(qP6 (t:=zH) (by decide) (NI.cons (by decide) _)).app ((Lx.sp _).app (qL9 (c:=40) Z (by decide) (by decide)))
theorem jK1 (Z:List UInt8):Lx [32,61,32,115,119,97,112,40] [sgT [61],wdT zY5,sgT [40]] Z:=(c_eq _).app ((qP6 (t:=zY5) (by decide) (NI.cons (by decide) _)).app (qL9 (c:=40) Z (by decide) (by decide)))
theorem kG0 (Z:List UInt8):Lx [44,32] [sgT [44]] Z:=(qL9 (c:=44) _ (by decide) (by decide)).app (Lx.sp Z)
theorem c_swe (Z:List UInt8):Lx [41,59,10] [sgT [41],sgT [59]] Z:=(qL9 (c:=41) _ (by decide) (by decide)).app (gK7 Z)
theorem jJ9 (Z:List UInt8):Lx [115,107,105,112,59,10] [wdT zO9,sgT [59]] Z:=(qP6 (t:=zO9) (by decide) (NI.cons (by decide) _)).app (gK7 Z)
theorem jI0 {l:List Ex} (hr:zH5 true l=true) (hok:gO2 l) {Z:List UInt8} (hZ:NI Z):Lx (txX l) (tkX l) Z:=by
  rcases rightX_iff.1 hr with ⟨_,x,rfl,hx⟩|⟨h,_⟩
  · exact jB9 _ x rfl 0 hx (hok.2 0 x rfl) Z hZ
  · cases h
mutual
theorem jG5:∀ (s:Sm) (d:Nat),zH9 s d=true→OkS s→∀ Z,Lx (qK6 s d) (tkS s) Z
  | .mk k nm other es body els a,d,hr,hok,Z=>by
    rw [zH9] at hr
    simp only [Bool.and_eq_true,decide_eq_true_eq] at hr
    obtain⟨⟨⟨⟨⟨⟨⟨⟨h1,h2⟩,h3⟩,h4⟩,h5⟩,h6⟩,h7⟩,h8⟩,h9⟩:=hr
    have hE:=hok.e
    have hB:=fun Z=>qT9 body (d+1) h8 hok.body Z
    have hL:=fun Z=>qT9 els (d+1) h9 hok.els Z
    simp only [Sm.e] at hE
    have hk:k=1∨k=2∨k=3∨k=4∨k=5∨k=6∨k=7:=by omega
    rcases hk with rfl|rfl|rfl|rfl|rfl|rfl|rfl
    · have hX:zH5 true es=true:=h4
      have hn:zH4 nm=true:=h2
      have:=(Lx.mar d _).app ((qC7 hn (NI.cons (by decide) _)).app ((c_eq _).app ((jI0 hX hE (NI.cons (by decide) _)).app (gK7 Z))))
      exact this.eq (by simp [qK6]) (by simp [tkS])
    · have hX:zH5 true es=true:=h4
      have hn:zH4 nm=true:=h2
      have ho:zH4 other=true:=h3
      have:=(Lx.mar d _).app ((qC7 hn (NI.cons (by decide) _)).app ((jK1 _).app ((qC7 ho (NI.cons (by decide) _)).app ((kG0 _).app ((jI0 hX hE (NI.cons (by decide) _)).app (c_swe Z))))))
      exact this.eq (by simp [qK6]) (by simp [tkS])
    · have hX:zH5 true es=true:=h4
      by_cases hl:0<els.length
      · have:=(Lx.mar d _).app ((c_if _).app ((jI0 hX hE (NI.cons (by decide) _)).app ((gS9 _).app ((hB _).app ((Lx.mar d _).app ((jL3 _).app ((hL _).app ((Lx.mar d _).app (kS9 Z)))))))))
        exact this.eq (by simp [qK6,hl]) (by simp [tkS,hl])
      · have:=(Lx.mar d _).app ((c_if _).app ((jI0 hX hE (NI.cons (by decide) _)).app ((gS9 _).app ((hB _).app ((Lx.mar d _).app (kS9 Z))))))
        exact this.eq (by simp [qK6,hl]) (by simp [tkS,hl])
    · have hX:zH5 true es=true:=h4
      have hl0:els=[]:=by simpa using h6
      subst hl0
      have:=(Lx.mar d _).app ((jE1 _).app ((jI0 hX hE (NI.cons (by decide) _)).app ((gS9 _).app ((hB _).app ((Lx.mar d _).app (kS9 Z))))))
      exact this.eq (by simp [qK6]) (by simp [tkS])
    · have hn:zH4 nm=true:=h2
      have:=(Lx.mar d _).app ((gT2 (w:=zH7) (by decide) _).app ((qC7 hn (NI.cons (by decide) _)).app ((gX6 _).app ((hB _).app ((Lx.mar d _).app (kS9 Z))))))
      exact this.eq (by simp [qK6,zH7]) (by simp [tkS])
    · have hX:zH5 true es=true:=h4
      have:=(Lx.mar d _).app ((gT2 (w:=zI2) (by decide) _).app ((jI0 hX hE (NI.cons (by decide) _)).app (gK7 Z)))
      exact this.eq (by simp [qK6,zI2]) (by simp [tkS])
    · have:=(Lx.mar d _).app (jJ9 Z)
      exact this.eq (by simp [qK6]) (by simp [tkS])
termination_by structural s=>s
theorem qT9:∀ (l:List Sm) (d:Nat),zE3 l d=true→qO l→∀ Z,Lx (zJ6 l d) (qC l) Z
  | [],d,hr,hok,Z=>by rw [zJ6,qC];exact Lx.nil Z
  | s::r,d,hr,hok,Z=>by
    rw [zE3,Bool.and_eq_true] at hr
    rw [zJ6,qC]
    exact(jG5 s d hr.1 (hok.2 0 s rfl) _).app (qT9 r d hr.2 ⟨by have:=hok.1;simp at this;omega,fun j x hj=>hok.2 (j+1) x (by simpa using hj)⟩ Z)
termination_by structural l=>l
end
def tkD (x:Dc):List Tok:=nmT x.nm::(if x.wd=0 then [] else sgT [61]::(if x.wd<0 then [sgT [45],nuT x.wd.natAbs] else [nuT x.wd.natAbs]))
def zQ5:List (List Tok)→List Tok
  | []=>[]
  | [x]=>x
  | x::y::r=>x++sgT [44]::zQ5 (y::r)
def gB9 (word:List UInt8) (l:List Dc):List Tok:=if l.length=0 then [] else wdT word::(zQ5 (l.map tkD)++[sgT [59]])
def tkT (t:Th):List Tok:=wdT zJ8::nmT t.nm::sgT [123]::(gB9 zM4 t.locals++(qC t.body++[sgT [125]]))
def tkP (p:Pg):List Tok:=gB9 zI9 p.shared++(gB9 zH7 p.locks++(p.threads.map tkT).flatten)
theorem jB5 {b:Bool} {x:Dc} (h:zQ1 b x=true) (hok:i64 x.wd) {Z:List UInt8} (hZ:NI Z):Lx (dcT x) (tkD x) Z:=by
  simp only [zQ1,Bool.and_eq_true] at h
  obtain⟨h1,h2⟩:=h
  have hne:x.wd≠-9223372036854775808:=by
    cases b
    · simp at h2;omega
    · simpa using h2
  unfold dcT tkD
  by_cases h0:x.wd=0
  · simp only [h0,if_true,List.append_nil];exact qC7 h1 hZ
  · simp only [h0,if_false]
    have hle:x.wd.natAbs≤9223372036854775807:=by have:=hok.1;have:=hok.2;omega
    unfold shw
    by_cases hn:x.wd<0
    · simp only [hn,if_true]
      have:=(qC7 h1 (NI.cons (by decide) _)).app ((c_eq _).app ((qL9 (c:=45) _ (by decide) (by decide)).app (kG3 hle hZ)))
      exact this.eq (by simp) (by simp)
    · simp only [hn,if_false]
      have:=(qC7 h1 (NI.cons (by decide) _)).app ((c_eq _).app (kG3 hle hZ))
      exact this.eq (by simp) (by simp)
theorem gT3 {b:Bool}:∀ (l:List Dc),l.all (zQ1 b)=true→(∀ x∈l,i64 x.wd)→∀ Z,NI Z→Lx (zU (l.map dcT)) (zQ5 (l.map tkD)) Z
  | [],_,_,Z,hZ=>Lx.nil Z
  | [x],h,hok,Z,hZ=>jB5 (by simpa using h) (hok x (.head _)) hZ
  | x::y::r,h,hok,Z,hZ=>by
    have h':=h
    rw [List.all_cons,Bool.and_eq_true] at h
    have:=(jB5 h.1 (hok x (.head _)) (NI.cons (by decide) _)).app ((kG0 _).app (gT3 (y::r) h.2 (fun z hz=>hok z (.tail _ hz)) Z hZ))
    exact this.eq (by simp [zU]) (by simp [zQ5])
theorem jF5 {l:List Dc} (h:OkD l):∀ x∈l,i64 x.wd:=fun x hx=>by
  obtain⟨j,hj⟩:=List.getElem?_of_mem hx
  exact(h.2 j x hj).1
theorem gO9 {b:Bool} {word:List UInt8} (hw:zP0 word=true) (d:Nat) {l:List Dc} (h:l.all (zQ1 b)=true) (hok:OkD l) (Z:List UInt8):Lx (gD5 word d l) (gB9 word l) Z:=by
  unfold gD5 gB9
  split
  · exact Lx.nil Z
  · have:=(Lx.mar d _).app ((gT2 hw _).app ((gT3 l h (jF5 hok) _ (NI.cons (by decide) _)).app (gK7 Z)))
    exact this.eq (by simp) (by simp)
theorem jK6 {t:Th} (h:qL2 t=true) (hok:OkD t.locals∧qO t.body) (Z:List UInt8):Lx (thT t) (tkT t) Z:=by
  simp only [qL2,Bool.and_eq_true] at h
  have:=(gT2 (w:=zJ8) (by decide) _).app ((qC7 h.1.1 (NI.cons (by decide) _)).app ((gX6 _).app ((gO9 (word:=zM4) (by decide) 1 h.1.2 hok.1 _).app ((qT9 t.body 1 h.2 hok.2 _).app (kS9 Z)))))
  exact this.eq (by simp [thT,zJ8,zM4]) (by simp [tkT])
theorem kL:∀ (l:List Th),l.all qL2=true→(∀ t∈l,OkD t.locals∧qO t.body)→∀ Z,Lx ((l.map thT).flatten) ((l.map tkT).flatten) Z
  | [],_,_,Z=>Lx.nil Z
  | t::r,h,hok,Z=>by
    rw [List.all_cons,Bool.and_eq_true] at h
    simp only [List.map_cons,List.flatten_cons]
    exact(jK6 h.1 (hok t (.head _)) _).app (kL r h.2 (fun x hx=>hok x (.tail _ hx)) Z)
theorem jL1 {p:Pg} (h:qD4 p=true) (hok:OkP p) (Z:List UInt8):Lx (pgT p) (tkP p) Z:=by
  simp only [qD4,Bool.and_eq_true] at h
  have:=(gO9 (word:=zI9) (by decide) 0 h.1.1 hok.1 _).app ((gO9 (word:=zH7) (by decide) 0 h.1.2 hok.2.1 _).app (kL p.threads h.2 (fun t ht=>by
    obtain⟨j,hj⟩:=List.getElem?_of_mem ht
    exact⟨(hok.2.2.2 j t hj).1,(hok.2.2.2 j t hj).2.1⟩) Z))
  exact this.eq (by simp [pgT,zI9,zH7]) (by simp [tkP])
theorem kY5 {l:List UInt8} {T:List Tok} (h:Lx l T []):∃ T',STk T' T∧zI l=(T',none):=by
  obtain⟨T',h1,h2⟩:=h 0
  refine⟨T',h1,?_⟩
  rw [qI]
  rw [List.append_nil] at h2
  rw [h2,zW3 (by simp)]
  simp
section
variable {e:Nat}
theorem kG {x:Dc} (h:zQ1 false x=true) {Z:List Tok}:declP e (tkD x++Z)=.ok (zD x,Z):=by
  have h0:x.wd=0:=by simp only [zQ1,Bool.and_eq_true] at h;simpa using h.2
  unfold declP tkD
  rw [if_pos h0]
  simp only [List.cons_append,List.nil_append,qC3]
  simp [zD,trD,idS,nmT,h0]
theorem kK4 (m:Bool) (n:Nat) (Z:List Tok):qO4 e m (nuT n::Z)=.ok ((if m=true then -(n:Int) else (n:Int)),Z):=by simp [qO4,here,nuT]
theorem kK9 {x:Dc} (h:zQ1 true x=true) {Z:List Tok} (hZ:isT [61] Z=false):initP e (tkD x++Z)=.ok (zD x,Z):=by
  unfold initP tkD
  by_cases h0:x.wd=0
  · simp only [h0,if_true,List.cons_append,List.nil_append,qC3,hZ,Bool.false_eq_true,if_false]
    simp [zD,trD,idS,nmT,h0]
  · by_cases hn:x.wd<0
    · simp only [h0,hn,if_true,if_false,List.cons_append,List.nil_append,qC3]
      rw [if_pos (by simp [zX6])]
      simp only [List.tail_cons]
      have e1:isT [45] (sgT [45]::nuT x.wd.natAbs::Z)=true:=by simp [zX6]
      have e2:-((x.wd.natAbs:Nat):Int)=x.wd:=by omega
      simp only [e1,↓reduceIte,List.tail_cons,kK4,e2]
      simp [zD,trD,idS,nmT]
    · simp only [h0,hn,if_false,List.cons_append,List.nil_append,qC3]
      rw [if_pos (by simp [zX6])]
      simp only [List.tail_cons]
      have e1:isT [45] (nuT x.wd.natAbs::Z)=false:=gW4 _ _ _
      have e2:((x.wd.natAbs:Nat):Int)=x.wd:=by omega
      simp only [e1,Bool.false_eq_true,↓reduceIte,kK4,e2]
      simp [zD,trD,idS,nmT]
theorem qZ1 {one:List Tok→PR Dc} {ok:Dc→Bool} (ho:∀ x,ok x=true→∀ s Z,s=[44]∨s=[59]→one (tkD x++(sgT s::Z))=.ok (zD x,sgT s::Z)) :
    ∀ (l:List Dc) (n:Nat),l≠[]→l.all ok=true→∀ Z,l.length≤n→zH0 e one n (zQ5 (l.map tkD)++(sgT [59]::Z))=.ok (l.map zD,Z)
  | [],n,h,_,Z,_=>absurd rfl h
  | [x],n,_,h,Z,hn=>by
    obtain⟨n',rfl⟩:∃ n',n=n'+1:=⟨n - 1,by simp at hn;omega⟩
    simp only [List.map_cons,List.map_nil,zQ5,zH0,ho x (by simpa using h) [59] Z (.inr rfl)]
    rw [if_neg (by rw [zX6];decide),qD3]
  | x::y::r,n,_,h,Z,hn=>by
    obtain⟨n',rfl⟩:∃ n',n=n'+1:=⟨n - 1,by simp at hn;omega⟩
    rw [List.all_cons,Bool.and_eq_true] at h
    have e1:zQ5 ((x::y::r).map tkD)++(sgT [59]::Z)=tkD x++(sgT [44]::(zQ5 ((y::r).map tkD)++(sgT [59]::Z))):=by simp [zQ5]
    rw [e1]
    simp only [zH0,ho x h.1 [44] _ (.inl rfl)]
    rw [if_pos (by rw [zX6];decide),List.tail_cons,qZ1 ho (y::r) n' (by simp) h.2 Z (by simp at hn ⊢;omega)]
    rfl
theorem gC6 (word:List UInt8) {l:List Dc} (h0:¬ l.length=0) (h:l.all (zQ1 false)=true) (Z:List Tok) (n:Nat) (hn:l.length≤n):zH0 e (declP e) n (zQ5 (l.map tkD)++(sgT [59]::Z))=.ok (l.map zD,Z):=
  qZ1 (ok:=zQ1 false) (fun x hx s Z hs=>kG hx) l n (by intro e;subst e;simp at h0) h Z hn
theorem kD0 {l:List Dc} (h0:¬ l.length=0) (h:l.all (zQ1 true)=true) (Z:List Tok) (n:Nat) (hn:l.length≤n):zH0 e (initP e) n (zQ5 (l.map tkD)++(sgT [59]::Z))=.ok (l.map zD,Z):=
  qZ1 (ok:=zQ1 true) (fun x hx s Z hs=>kK9 hx (by rcases hs with rfl|rfl <;> (rw [zX6];decide))) l n (by intro e;subst e;simp at h0) h Z hn
theorem qH0:∀ (l:List Dc),l.length≤(zQ5 (l.map tkD)).length
  | []=>Nat.le_refl _
  | [x]=>by simp [zQ5,tkD]
  | x::y::r=>by
    have:=qH0 (y::r)
    simp only [List.map_cons,List.length_cons,zQ5,List.length_append,tkD] at this ⊢;omega
theorem gQ3 {t:Th} (h:qL2 t=true) (Z:List Tok):zM0 e (nmT t.nm::sgT [123]::(gB9 zM4 t.locals++(qC t.body++[sgT [125]]))++Z)=.ok (zT t,Z):=by
  simp only [qL2,Bool.and_eq_true] at h
  have hrest:=gF9 (e:=e) t.body 1 h.2 Z
  have e1:nmT t.nm::sgT [123]::(gB9 zM4 t.locals++(qC t.body++[sgT [125]]))++Z=nmT t.nm::sgT [123]::(gB9 zM4 t.locals++(qC t.body++(sgT [125]::Z))):=by simp
  rw [e1]
  have hnl:isT zM4 (qC t.body++(sgT [125]::Z))=false:=by
    cases hb:t.body with
    | nil=>rw [qC,List.nil_append,zX6];decide
    | cons s r=>
      rw [qC,List.append_assoc]
      exact gP3 s 1 (by rw [hb,zE3,Bool.and_eq_true] at h;exact h.2.1) _ (by decide) (.inl rfl)
  have hloc:∀ n,(gB9 zM4 t.locals++(qC t.body++(sgT [125]::Z))).length<n→zF1 e n (gB9 zM4 t.locals++(qC t.body++(sgT [125]::Z)))=.ok (t.locals.map zD,qC t.body++(sgT [125]::Z)):=by
    intro n hn
    obtain⟨n',rfl⟩:∃ n',n=n'+1:=⟨n - 1,by omega⟩
    unfold gB9 at hn ⊢
    split
    · rename_i h0
      rw [List.nil_append,zF1,if_neg (by rw [hnl];simp),List.eq_nil_of_length_eq_zero h0];rfl
    · rename_i h0
      rw [if_neg h0] at hn
      have e2:wdT zM4::(zQ5 (t.locals.map tkD)++[sgT [59]])++(qC t.body++(sgT [125]::Z))=wdT zM4::(zQ5 (t.locals.map tkD)++(sgT [59]::(qC t.body++(sgT [125]::Z)))):=by simp
      rw [e2] at hn ⊢
      have hcl:=qH0 t.locals
      simp only [List.length_cons,List.length_append] at hn
      rw [zF1,if_pos (by rw [zZ5];simp),List.tail_cons,gC6 zM4 h0 h.1.2 _ _ (by simp;omega)]
      simp only
      obtain⟨n2,rfl⟩:∃ n2,n'=n2+1:=⟨n' - 1,by omega⟩
      rw [zF1,if_neg (by rw [hnl];simp)]
      simp
  unfold zM0
  simp only [qC3,qD3]
  rw [hloc _ (Nat.lt_succ_self _)]
  simp only [qD]
  rw [hrest _ (Nat.lt_succ_self _)]
  simp [zT,trT,idS,nmT]
theorem qS2:∀ (l:List Th) (n:Nat),l.all qL2=true→l.length<n→zG0 e n ((l.map tkT).flatten)=.ok (l.map zT,[])
  | [],n,_,hn=>by
    obtain⟨n',rfl⟩:∃ n',n=n'+1:=⟨n - 1,by simp at hn;omega⟩
    simp [zG0,isT,here,gT0]
  | t::r,n,h,hn=>by
    obtain⟨n',rfl⟩:∃ n',n=n'+1:=⟨n - 1,by simp at hn;omega⟩
    rw [List.all_cons,Bool.and_eq_true] at h
    simp only [List.map_cons,List.flatten_cons]
    rw [tkT,List.cons_append,zG0,if_pos (by rw [zZ5];simp),List.tail_cons,gQ3 h.1]
    simp only
    rw [qS2 r n' h.2 (by simp at hn;omega)]
theorem gU5:∀ (l:List Th),l.length≤((l.map tkT).flatten).length
  | []=>Nat.le_refl _
  | t::r=>by
    have:=gU5 r
    simp only [List.map_cons,List.flatten_cons,List.length_append,List.length_cons,tkT] at this ⊢;omega
theorem qY2 (s:List UInt8) (hs:s≠zJ8) (l:List Th) (hs2:s≠[]):isT s ((l.map tkT).flatten)=false:=by
  cases l with
  | nil=>simp [isT,here,gT0]
  | cons t r=>simp only [List.map_cons,List.flatten_cons,tkT,List.cons_append,zZ5,decide_eq_false_iff_not];exact fun h=>hs h.symm
theorem gT1 {l:List Th} (h:l.all qL2=true) (n:Nat):zM6 e (n+1) ((l.map tkT).flatten)=.ok ⟨[],[],l.map zT⟩:=by
  rw [zM6,if_neg (by rw [qY2 _ (by decide) _ (by decide)];simp),if_neg (by rw [qY2 _ (by decide) _ (by decide)];simp),qS2 l _ h (by have:=gU5 l;omega)]
  simp
theorem gM {l:List Dc} {ts:List Th} (hl:l.all (zQ1 false)=true) (h:ts.all qL2=true) (n:Nat):zM6 e (n+2) (gB9 zH7 l++(ts.map tkT).flatten)=.ok ⟨[],l.map zD,ts.map zT⟩:=by
  unfold gB9
  split
  · rename_i h0
    rw [List.nil_append,gT1 h,List.eq_nil_of_length_eq_zero h0];rfl
  · rename_i h0
    have e2:wdT zH7::(zQ5 (l.map tkD)++[sgT [59]])++(ts.map tkT).flatten=wdT zH7::(zQ5 (l.map tkD)++(sgT [59]::(ts.map tkT).flatten)):=by simp
    have hcl:=qH0 l
    rw [e2,zM6,if_neg (by rw [zZ5];decide),if_pos (by rw [zZ5];simp),List.tail_cons,gC6 zH7 h0 hl _ _ (by simp;omega)]
    simp only
    rw [gT1 h]
    simp
theorem kS0 {p:Pg} (h:qD4 p=true) (n:Nat):zM6 e (n+3) (tkP p)=.ok (zP p):=by
  simp only [qD4,Bool.and_eq_true] at h
  unfold tkP
  have hz:zP p=⟨p.shared.map zD,p.locks.map zD,p.threads.map zT⟩:=rfl
  rw [hz]
  by_cases h0:p.shared.length=0
  · rw [gB9,if_pos h0,List.nil_append,gM h.1.2 h.2,List.eq_nil_of_length_eq_zero h0];rfl
  · have e1:gB9 zI9 p.shared=wdT zI9::(zQ5 (p.shared.map tkD)++[sgT [59]]):=by rw [gB9,if_neg h0]
    have e2:gB9 zI9 p.shared++(gB9 zH7 p.locks++(p.threads.map tkT).flatten)=wdT zI9::(zQ5 (p.shared.map tkD)++(sgT [59]::(gB9 zH7 p.locks++(p.threads.map tkT).flatten))):=by rw [e1];simp
    have hcl:=qH0 p.shared
    rw [e2,zM6,if_pos (by rw [zZ5];simp),List.tail_cons,kD0 h0 h.1.1 _ _ (by simp;omega)]
    simp only
    rw [gM h.1.2 h.2]
    simp
theorem gI2 {p:Pg} (h:qD4 p=true) (hok:OkP p) (hl:(pgT p).length≤65536):∃ q,zE5 (pgT p)=(q,0,0,0)∧zP q=zP p:=by
  obtain⟨T',h1,h2⟩:=kY5 (jL1 h hok [])
  have h3:=kS0 (e:=(pgT p).length) h (T'.length - 2)
  have hst:=gS1 (e:=(pgT p).length) (e':=(pgT p).length) (T'.length+1) T' (tkP p) h1
  have hx:zM6 (pgT p).length (T'.length+1) (tkP p)=.ok (zP p):=by
    rcases Nat.lt_or_ge T'.length 2 with hlt|hge
    · have hlen:=h1.len
      have:tkP p=[]:=by
        cases hq:tkP p with
        | nil=>rfl
        | cons t r=>
          exfalso
          unfold tkP gB9 at hq
          have key:2≤(tkP p).length:=by
            unfold tkP gB9
            by_cases a1:p.shared.length=0
            · by_cases a2:p.locks.length=0
              · by_cases a3:p.threads.length=0
                · rw [List.eq_nil_of_length_eq_zero a3] at hq;simp [a1,a2] at hq
                · cases ht:p.threads with
                  | nil=>rw [ht] at a3;simp at a3
                  | cons t' r'=>simp only [a1,a2,if_true,List.nil_append,List.map_cons,List.flatten_cons,tkT,List.length_append,List.length_cons];omega
              · simp only [a1,a2,if_true,if_false,List.nil_append,List.length_append,List.length_cons];omega
            · simp only [a1,if_false,List.length_append,List.length_cons];omega
          omega
      rw [this] at h3 hlen ⊢
      have:T'.length=0:=by simpa using hlen
      have h4:zP p=⟨[],[],[]⟩:=by
        rw [this] at h3
        simp [zM6,isT,here,gT0,zG0] at h3
        exact h3.symm
      rw [this,h4]
      simp [zM6,isT,here,gT0,zG0]
    · have e1:T'.length - 2+3=T'.length+1:=by omega
      rw [e1] at h3;exact h3
  rw [hx] at hst
  rcases hst.cases with ⟨f,g,e1,e2,hf⟩|⟨q,q',e1,e2,hq⟩
  · cases e2
  · cases e2
    refine⟨q,?_,?_⟩
    · unfold zE5
      rw [if_neg (by omega),h2]
      simp only [e1]
    · have:=sameP_iff.1 hq
      rw [this]
      show trP idS (fun _=>0) (trP idS (fun _=>0) p)=_
      rw [jH0]
end
end ParS
/- What is parsed may be written: expressions. -/
namespace ParS
open Sx LexS
structure TkOk (t:Tok):Prop where
  name:t.kind=1→zH4 t.text=true
  word:t.word≤9223372036854775807
  at_:t.at_≤1048576
def TsOk (ts:List Tok):Prop:=(∀ t∈ts,TkOk t)∧ts.length≤1048576
theorem TsOk.tail {ts:List Tok} (h:TsOk ts):TsOk ts.tail:=⟨fun t ht=>h.1 t (List.mem_of_mem_tail ht),by rw [List.length_tail];have:=h.2;omega⟩
theorem TsOk.here {ts:List Tok} (h:TsOk ts):TkOk (ParS.here ts):=by
  cases ts with
  | nil=>exact⟨fun h=>(by cases h),by simp [ParS.here,gT0],by simp [ParS.here,gT0]⟩
  | cons x l=>exact h.1 x (.head _)
theorem qQ0 {n:Nat} (h:n≤9223372036854775807):i64 (n:Int):=⟨by omega,by omega⟩
theorem jH3 {n:Nat} (h:n≤9223372036854775807):i64 (-(n:Int)):=⟨by omega,by omega⟩
theorem TkOk.ati {t:Tok} (h:TkOk t):i64 (t.at_:Int):=qQ0 (by have:=h.at_;omega)
theorem gR4:∀ (n:Nat) (x:Ex),SizeOf.sizeOf x=n→∀ d d',zB9 x d=true→d'≤d→zB9 x d'=true:=by
  intro n
  refine Nat.strongRecOn n fun n ih=>?_
  intro x hn d d' hr hd
  obtain⟨hle,hcase⟩:=rightE_iff.1 hr
  refine rightE_iff.2 ⟨by omega,?_⟩
  have hkid:∀ y,y∈x.kids→∀ a b,zB9 y a=true→b≤a→zB9 y b=true:=fun y hy a b h1 h2=>ih _ (by have:=qC9 hy;omega) y rfl a b h1 h2
  rcases hcase with h|h|h|h
  · exact .inl h
  · exact .inr (.inl h)
  · obtain⟨h1,h2,h3,h4,y,hy,hry⟩:=h
    refine .inr (.inr (.inl ⟨h1,h2,h3,h4,y,hy,hkid y (by rw [hy];exact .head _) _ _ hry ?_⟩))
    split <;> omega
  · obtain⟨h1,h2,h3,h4,y,z,hyz,hry,hrz⟩:=h
    refine .inr (.inr (.inr ⟨h1,h2,h3,h4,y,z,hyz,hkid y (by rw [hyz];exact .head _) _ _ hry ?_,hkid z (by rw [hyz];exact .tail _ (.head _)) _ _ hrz ?_⟩))
    · split <;> omega
    · split <;> omega
theorem kV5 {x:Ex} {d d':Nat} (h:zB9 x d=true) (hd:d'≤d):zB9 x d'=true:=gR4 _ x rfl d d' h hd
structure Prt (x:Ex) (d:Nat):Prop where
  ok:OkE x
  r:zB9 x d=true
  par:x.k=4→zB9 x (d+1)=true
def kY7 (u:List Tok→PR Ex) (d:Nat):Prop:=∀ r x r',TsOk r→u r=.ok (x,r')→Prt x d∧TsOk r'
theorem kM7 {s:List UInt8} {op:Nat} (h:zN9 s=some op):zP9 (op:Int)=true:=by
  unfold zN9 at h
  have h1:=List.find?_some h
  simp only [Bool.and_eq_true] at h1
  exact h1.1
theorem jD6 {t:Tok} {op:Nat} (h:opT t=some op):zP9 (op:Int)=true:=by
  unfold opT at h;split at h
  · exact kM7 h
  · cases h
theorem jH {op:Nat} {a:Nat} {x y:Ex} (hop:zP9 (op:Int)=true) (ha:i64 (a:Int)) (hx:OkE x) (hy:OkE y):OkE (gB2 op a x y):=by
  simp only [zP9,decide_eq_true_eq] at hop
  refine .mk ⟨by decide,by decide⟩ ⟨by omega,by omega⟩ ⟨by decide,by decide⟩ ha (by simp) ?_
  intro j z hz
  match j,hz with
  | 0,hz=>simp at hz;subst hz;exact hx
  | 1,hz=>simp at hz;subst hz;exact hy
  | j+2,hz=>simp at hz
theorem qK1 {u:List Tok→PR Ex} {d:Nat} (hd:d≤64) (hu:kY7 u d):∀ (n:Nat) (lv:Int) (x:Ex) (r:List Tok) (z:Ex) (r':List Tok),TsOk r→zK8 u n lv x r=.ok (z,r')→
    OkE x→zB9 x d=true→(x.k=4→zB9 x (d+1)=true∨lv≤zI8 x.op)→(x.k=4→zB9 x (d+1)=true∨∀ o,opT (here r)=some o→zI8 (o:Int)≤zI8 x.op)→
    OkE z∧zB9 z d=true∧(z.k=4→zB9 z (d+1)=true∨lv≤zI8 z.op)∧(∀ o,opT (here r')=some o→zI8 (o:Int)<lv)∧TsOk r'
  | 0,lv,x,r,z,r',_,h,_,_,_,_=>by simp [zK8] at h
  | n+1,lv,x,r,z,r',hr,h,h1,h2,h3,h4=>by
    simp only [zK8] at h
    cases hop:opT (here r) with
    | none=>
      rw [hop] at h;cases h
      exact⟨h1,h2,h3,fun o ho=>(by rw [hop] at ho;cases ho),hr⟩
    | some op=>
      rw [hop] at h
      simp only at h
      split at h
      · rename_i hlt
        cases h
        exact⟨h1,h2,h3,fun o ho=>(by rw [hop] at ho;cases ho;exact hlt),hr⟩
      · rename_i hge
        cases hy:u r.tail with
        | error f=>rw [hy] at h;cases h
        | ok p=>
          obtain⟨y,r1⟩:=p
          rw [hy] at h
          simp only at h
          obtain⟨py,hr1⟩:=hu _ _ _ hr.tail hy
          cases hz:zK8 u n (zI8 (op:Int)+1) y r1 with
          | error f=>rw [hz] at h;cases h
          | ok q=>
            obtain⟨z1,r2⟩:=q
            rw [hz] at h
            simp only at h
            obtain⟨a1,a2,a3,a4,a5⟩:=qK1 hd hu n _ _ _ _ _ hr1 hz py.ok py.r (fun k=>.inl (py.par k)) (fun k=>.inl (py.par k))
            have htwo:=jD6 hop
            have hleft:zB9 x (if inn (op:Int) x false=true then d+1 else d)=true:=by
              split
              · rename_i hin
                unfold inn at hin
                simp only [Bool.and_eq_true,decide_eq_true_eq,Bool.false_and,Bool.or_false] at hin
                rcases h4 hin.1 with k|k
                · exact k
                · have:=k op hop;omega
              · exact h2
            have hright:zB9 z1 (if inn (op:Int) z1 true=true then d+1 else d)=true:=by
              split
              · rename_i hin
                unfold inn at hin
                simp only [Bool.and_eq_true,decide_eq_true_eq,Bool.true_and,Bool.or_eq_true] at hin
                rcases a3 hin.1 with k|k
                · exact k
                · rcases hin.2 with k2|k2 <;> omega
              · exact a2
            have hb:zB9 (gB2 op (here r).at_ x z1) d=true:=rightE_iff.2 ⟨hd,.inr (.inr (.inr ⟨rfl,htwo,rfl,rfl,x,z1,rfl,hleft,hright⟩))⟩
            exact qK1 hd hu n lv _ r2 z r' a5 h (jH htwo hr.here.ati h1 a1) hb (fun _=>.inr (by show lv≤zI8 (op:Int);omega)) (fun _=>.inr fun o ho=>by have:=a4 o ho;show zI8 (o:Int)≤zI8 (op:Int);omega)
theorem qY7 {u:List Tok→PR Ex} {d:Nat} (hd:d≤64) (hg:kA6 u) (hu:kY7 u d) {r r':List Tok} {x:Ex} (hr:TsOk r) (h:zX4 u r=.ok (x,r')):OkE x∧zB9 x d=true∧TsOk r':=by
  rw [← zW5 u hg] at h
  unfold zV0 at h
  cases hx:u r with
  | error f=>rw [hx] at h;cases h
  | ok p=>
    obtain⟨y,r1⟩:=p
    rw [hx] at h
    simp only at h
    obtain⟨py,hr1⟩:=hu _ _ _ hr hx
    obtain⟨a1,a2,a3,a4,a5⟩:=qK1 hd hu _ _ _ _ _ _ hr1 h py.ok py.r (fun k=>.inl (py.par k)) (fun k=>.inl (py.par k))
    exact⟨a1,a2,a5⟩
theorem gC7 (e:Nat) {d:Nat} (hd:d≤64):kY7 (zV1 e) d:=by
  intro r x r' hr h
  unfold zV1 at h
  have hh:=hr.here
  split at h
  · cases h
    refine⟨⟨.mk ⟨by decide,by decide⟩ ⟨by decide,by decide⟩ (qQ0 hh.word) hh.ati (by simp) (fun j z hz=>by simp at hz),rightE_iff.2 ⟨hd,.inl ⟨rfl,by simp [Ex.wd],rfl,rfl,rfl⟩⟩,fun k=>by simp [Ex.k] at k⟩,hr.tail⟩
  · split at h
    · rename_i hk
      cases h
      refine⟨⟨.mk ⟨by decide,by decide⟩ ⟨by decide,by decide⟩ ⟨by decide,by decide⟩ hh.ati (by simp) (fun j z hz=>by simp at hz),rightE_iff.2 ⟨hd,.inr (.inl ⟨rfl,hh.name hk,rfl,rfl,rfl⟩)⟩,fun k=>by simp [Ex.k] at k⟩,hr.tail⟩
    · cases h
theorem qV0 (e:Nat):∀ (m d:Nat),d+m=64→kY7 (zC1 e m) d
  | 0,d,hd=>by
    intro r x r' hr h
    simp only [zC1] at h
    split at h
    · cases h
    · exact gC7 e (by omega) r x r' hr h
  | m+1,d,hd=>by
    intro r x r' hr h
    simp only [zC1] at h
    have ih:=qV0 e m (d+1) (by omega)
    split at h
    · split at h
      · cases hx:zX4 (zC1 e m) r.tail with
        | error f=>rw [hx] at h;cases h
        | ok p=>
          obtain⟨y,r1⟩:=p
          rw [hx] at h
          simp only at h
          obtain⟨a1,a2,a3⟩:=qY7 (by omega) (zI3 e m) ih hr.tail hx
          cases hw:want e [41] r1 with
          | error f=>rw [hw] at h;cases h
          | ok r2=>
            rw [hw] at h
            cases h
            obtain⟨_,rfl⟩:=qF hw
            exact⟨⟨a1,kV5 a2 (by omega),fun _=>a2⟩,a3.tail⟩
      · cases hx:zC1 e m r.tail with
        | error f=>rw [hx] at h;cases h
        | ok p=>
          obtain⟨y,r1⟩:=p
          rw [hx] at h
          cases h
          obtain⟨py,hr1⟩:=ih _ _ _ hr.tail hx
          have hop:qI9 (if (here r).text=[33] then 18 else 17)=true:=by split <;> decide
          refine⟨⟨.mk ⟨by decide,by decide⟩ (by split <;> exact⟨by decide,by decide⟩) ⟨by decide,by decide⟩ hr.here.ati (by simp) (fun j z hz=>?_),rightE_iff.2 ⟨by omega,.inr (.inr (.inl ⟨rfl,hop,rfl,rfl,y,rfl,?_⟩))⟩,fun k=>by simp [Ex.k] at k⟩,hr1⟩
          · match j,hz with
            | 0,hz=>simp at hz;subst hz;exact py.ok
            | j+1,hz=>simp at hz
          · split
            · rename_i hk;exact py.par hk
            · exact py.r
    · exact gC7 e (by omega) r x r' hr h
theorem qR0 {e:Nat} {r r':List Tok} {x:Ex} (hr:TsOk r) (h:zN8 e 64 r=.ok (x,r')):OkE x∧zB9 x 0=true∧TsOk r':=qY7 (by omega) (zI3 e 64) (qV0 e 64 0 rfl) hr h
end ParS
/- What is parsed may be written: statements,programs. -/
namespace ParS
open Sx LexS
def kT5 (st:List Tok→PR Sm) (d:Nat):Prop:=∀ r s r',TsOk r→st r=.ok (s,r')→OkS s∧zH9 s d=true∧TsOk r'
def jJ4 (bk:List Tok→PR (List Sm)) (d:Nat):Prop:=∀ r l r',TsOk r→bk r=.ok (l,r')→qO l∧(d<64∧zE3 l (d+1)=true)∧TsOk r'
section
variable {e:Nat} (he:e≤1048576)
theorem zX9 {s:List UInt8} {r r':List Tok} (hr:TsOk r) (h:want e s r=.ok r'):TsOk r':=by obtain⟨_,rfl⟩:=qF h;exact hr.tail
theorem qQ5 {r r':List Tok} {t:Tok} (hr:TsOk r) (h:zH1 e r=.ok (t,r')):zH4 t.text=true∧i64 (t.at_:Int)∧TsOk r':=by
  unfold zH1 at h;split at h
  · rename_i hk;cases h;exact⟨hr.here.name hk,hr.here.ati,hr.tail⟩
  · cases h
include he in
theorem kI9 {r:List Tok} (hr:TsOk r):i64 (atT e r:Int):=by
  cases r with
  | nil=>exact qQ0 (by show e≤_;omega)
  | cons t l=>exact TkOk.ati (hr.1 t (.head _))
theorem kR4 {r r':List Tok} {x:Ex} (hr:TsOk r) (h:condP e r=.ok (x,r')):OkE x∧zB9 x 0=true∧TsOk r':=by
  unfold condP at h
  cases h1:want e [40] r with
  | error f=>rw [h1] at h;cases h
  | ok r1=>
    rw [h1] at h;simp only at h
    have k1:=zX9 hr h1
    cases h2:zN8 e 64 r1 with
    | error f=>rw [h2] at h;cases h
    | ok p=>
      obtain⟨y,r2⟩:=p
      rw [h2] at h;simp only at h
      obtain⟨a1,a2,k2⟩:=qR0 k1 h2
      cases h3:want e [41] r2 with
      | error f=>rw [h3] at h;cases h
      | ok r3=>rw [h3] at h;cases h;exact⟨a1,a2,zX9 k2 h3⟩
theorem kS8 {r r':List Tok} {x:Ex} (hr:TsOk r) (h:zJ4 e r=.ok (x,r')):OkE x∧zB9 x 0=true∧TsOk r':=by
  unfold zJ4 at h
  cases h2:zN8 e 64 r with
  | error f=>rw [h2] at h;cases h
  | ok p=>
    obtain⟨y,r2⟩:=p
    rw [h2] at h;simp only at h
    obtain⟨a1,a2,k2⟩:=qR0 hr h2
    cases h3:want e [59] r2 with
    | error f=>rw [h3] at h;cases h
    | ok r3=>rw [h3] at h;cases h;exact⟨a1,a2,zX9 k2 h3⟩
theorem jE {r r':List Tok} {o:List UInt8} {x:Ex} (hr:TsOk r) (h:qK2 e r=.ok ((o,x),r')):zH4 o=true∧OkE x∧zB9 x 0=true∧TsOk r':=by
  unfold qK2 at h
  cases h1:want e [40] r with
  | error f=>rw [h1] at h;cases h
  | ok r1=>
    rw [h1] at h;simp only at h
    have k1:=zX9 hr h1
    cases hn:zH1 e r1 with
    | error f=>rw [hn] at h;cases h
    | ok p=>
      obtain⟨t,r2⟩:=p
      rw [hn] at h;simp only at h
      obtain⟨n1,_,k2⟩:=qQ5 k1 hn
      cases h3:want e [44] r2 with
      | error f=>rw [h3] at h;cases h
      | ok r3=>
        rw [h3] at h;simp only at h
        have k3:=zX9 k2 h3
        cases h4:zN8 e 64 r3 with
        | error f=>rw [h4] at h;cases h
        | ok p=>
          obtain⟨y,r4⟩:=p
          rw [h4] at h;simp only at h
          obtain⟨a1,a2,k4⟩:=qR0 k3 h4
          cases h5:want e [41] r4 with
          | error f=>rw [h5] at h;cases h
          | ok r5=>
            rw [h5] at h;simp only at h
            have k5:=zX9 k4 h5
            cases h6:want e [59] r5 with
            | error f=>rw [h6] at h;cases h
            | ok r6=>rw [h6] at h;cases h;exact⟨n1,a1,a2,zX9 k5 h6⟩
theorem qH8 {x:Ex} (h:OkE x):gO2 [x]:=⟨by simp,fun j y hy=>by
  match j,hy with
  | 0,hy=>simp at hy;subst hy;exact h
  | j+1,hy=>simp at hy⟩
theorem zQ9:qO []:=⟨by simp,fun j y hy=>by simp at hy⟩
theorem gW3:gO2 []:=⟨by simp,fun j y hy=>by simp at hy⟩
theorem qR8 {k:Int} {nm other:List UInt8} {es:List Ex} {body els:List Sm} {a:Int} (hk:u8 k) (ha:i64 a) (h1:gO2 es) (h2:qO body) (h3:qO els):OkS (.mk k nm other es body els a):=.mk hk ha h1 h2.1 h2.2 h3.1 h3.2
include he in
theorem kJ0 {r r0 r':List Tok} {s:Sm} {d:Nat} (hr0:TsOk r0) (hr:TsOk r) (h:zK9 e (atT e r0) r=.ok (s,r')):OkS s∧zH9 s d=true∧TsOk r':=by
  have ha:=kI9 he hr0
  unfold zK9 at h
  cases hn:zH1 e r with
  | error f=>rw [hn] at h;cases h
  | ok p=>
    obtain⟨t,r1⟩:=p
    rw [hn] at h;simp only at h
    obtain⟨n1,_,k1⟩:=qQ5 hr hn
    cases h2:want e [61] r1 with
    | error f=>rw [h2] at h;cases h
    | ok r2=>
      rw [h2] at h;simp only at h
      have k2:=zX9 k1 h2
      split at h
      · cases h3:qK2 e r2.tail with
        | error f=>rw [h3] at h;cases h
        | ok p=>
          obtain⟨⟨o,x⟩,r3⟩:=p
          rw [h3] at h;simp only at h
          cases h
          obtain⟨n2,a1,a2,k3⟩:=jE k2.tail h3
          refine⟨qR8 ⟨by decide,by decide⟩ ha (qH8 a1) zQ9 zQ9,?_,k3⟩
          rw [zH9];simp [qF6,zW9,qA1,zR9,zH5,zE3,n1,n2,a2]
      · cases h3:zJ4 e r2 with
        | error f=>rw [h3] at h;cases h
        | ok p=>
          obtain⟨x,r3⟩:=p
          rw [h3] at h;simp only at h
          cases h
          obtain⟨a1,a2,k3⟩:=kS8 k2 h3
          refine⟨qR8 ⟨by decide,by decide⟩ ha (qH8 a1) zQ9 zQ9,?_,k3⟩
          rw [zH9];simp [qF6,zW9,qA1,zR9,zH5,zE3,n1,a2]
include he in
theorem qZ7 {bk:List Tok→PR (List Sm)} {d:Nat} (hb:jJ4 bk d):kT5 (zS0 e bk) d:=by
  intro r s r' hr h
  have ha:=kI9 he hr
  unfold zS0 at h
  split at h
  · cases h1:condP e r.tail with
    | error f=>rw [h1] at h;cases h
    | ok p=>
      obtain⟨x,r1⟩:=p
      rw [h1] at h;simp only at h
      obtain⟨a1,a2,k1⟩:=kR4 hr.tail h1
      cases h2:bk r1 with
      | error f=>rw [h2] at h;cases h
      | ok p=>
        obtain⟨b,r2⟩:=p
        rw [h2] at h;simp only at h
        obtain⟨b1,b2,k2⟩:=hb _ _ _ k1 h2
        split at h
        · cases h3:bk r2.tail with
          | error f=>rw [h3] at h;cases h
          | ok p=>
            obtain⟨l,r3⟩:=p
            rw [h3] at h;simp only at h
            cases h
            obtain⟨c1,c2,k3⟩:=hb _ _ _ k2.tail h3
            refine⟨qR8 ⟨by decide,by decide⟩ ha (qH8 a1) b1 c1,?_,k3⟩
            rw [zH9];simp [qF6,zW9,qA1,zR9,zH5,a2,b2.1,b2.2,c2.2]
        · cases h
          refine⟨qR8 ⟨by decide,by decide⟩ ha (qH8 a1) b1 zQ9,?_,k2⟩
          rw [zH9];simp [qF6,zW9,qA1,zR9,zH5,zE3,a2,b2.1,b2.2]
  · split at h
    · cases h1:condP e r.tail with
      | error f=>rw [h1] at h;cases h
      | ok p=>
        obtain⟨x,r1⟩:=p
        rw [h1] at h;simp only at h
        obtain⟨a1,a2,k1⟩:=kR4 hr.tail h1
        cases h2:bk r1 with
        | error f=>rw [h2] at h;cases h
        | ok p=>
          obtain⟨b,r2⟩:=p
          rw [h2] at h;simp only at h
          cases h
          obtain⟨b1,b2,k2⟩:=hb _ _ _ k1 h2
          refine⟨qR8 ⟨by decide,by decide⟩ ha (qH8 a1) b1 zQ9,?_,k2⟩
          rw [zH9];simp [qF6,zW9,qA1,zR9,zH5,zE3,a2,b2.1,b2.2]
    · split at h
      · cases h1:zH1 e r.tail with
        | error f=>rw [h1] at h;cases h
        | ok p=>
          obtain⟨t,r1⟩:=p
          rw [h1] at h;simp only at h
          obtain⟨n1,_,k1⟩:=qQ5 hr.tail h1
          cases h2:bk r1 with
          | error f=>rw [h2] at h;cases h
          | ok p=>
            obtain⟨b,r2⟩:=p
            rw [h2] at h;simp only at h
            cases h
            obtain⟨b1,b2,k2⟩:=hb _ _ _ k1 h2
            refine⟨qR8 ⟨by decide,by decide⟩ ha gW3 b1 zQ9,?_,k2⟩
            rw [zH9];simp [qF6,zW9,qA1,zR9,zH5,zE3,n1,b2.1,b2.2]
      · split at h
        · cases h1:zJ4 e r.tail with
          | error f=>rw [h1] at h;cases h
          | ok p=>
            obtain⟨x,r1⟩:=p
            rw [h1] at h;simp only at h
            cases h
            obtain⟨a1,a2,k1⟩:=kS8 hr.tail h1
            refine⟨qR8 ⟨by decide,by decide⟩ ha (qH8 a1) zQ9 zQ9,?_,k1⟩
            rw [zH9];simp [qF6,zW9,qA1,zR9,zH5,zE3,a2]
        · split at h
          · cases h1:want e [59] r.tail with
            | error f=>rw [h1] at h;cases h
            | ok r1=>
              rw [h1] at h;simp only at h
              cases h
              refine⟨qR8 ⟨by decide,by decide⟩ ha gW3 zQ9 zQ9,?_,zX9 hr.tail h1⟩
              rw [zH9];simp [qF6,zW9,qA1,zR9,zH5,zE3]
          · exact kJ0 he hr hr h
theorem qK9 {st:List Tok→PR Sm} {d:Nat} (hs:kT5 st d):∀ (n:Nat) (r:List Tok) (l:List Sm) (r':List Tok),TsOk r→zN3 st n r=.ok (l,r')→(l.length<n∧∀ x∈l,OkS x)∧zE3 l d=true∧TsOk r'
  | 0,r,l,r',_,h=>by simp [zN3] at h
  | n+1,r,l,r',hr,h=>by
    simp only [zN3] at h
    split at h
    · cases h;exact⟨⟨by simp,by simp⟩,rfl,hr.tail⟩
    · cases h1:st r with
      | error f=>rw [h1] at h;cases h
      | ok p=>
        obtain⟨s,r1⟩:=p
        rw [h1] at h;simp only at h
        obtain⟨a1,a2,k1⟩:=hs _ _ _ hr h1
        cases h2:zN3 st n r1 with
        | error f=>rw [h2] at h;cases h
        | ok p=>
          obtain⟨l2,r2⟩:=p
          rw [h2] at h;simp only at h
          cases h
          obtain⟨⟨b1,b2⟩,b3,k2⟩:=qK9 hs n r1 l2 _ k1 h2
          refine⟨⟨by simp;omega,fun x hx=>?_⟩,by rw [zE3,a2,b3];rfl,k2⟩
          rcases List.mem_cons.1 hx with rfl|hx
          · exact a1
          · exact b2 x hx
theorem kR5 {l:List Sm} (h:l.length≤1099511627776) (hx:∀ x∈l,OkS x):qO l:=⟨h,fun j x hj=>hx x (List.mem_of_getElem? hj)⟩
include he in
theorem gF0:∀ (m d:Nat),d+m=64→kT5 (zO4 e m) d
  | 0,d,hd=>by
    intro r s r' hr h
    rw [zO4] at h
    refine qZ7 he (bk:=fun r=>if isT [123] r=true then fail e 3 r else fail e 2 r) (fun r l r' _ h=>?_) r s r' hr h
    dsimp only at h
    split at h <;> cases h
  | m+1,d,hd=>by
    intro r s r' hr h
    rw [zO4] at h
    refine qZ7 he (bk:=fun r=>match want e [123] r with | .error f=>.error f | .ok r1=>zN3 (zO4 e m) (r1.length+1) r1) (fun r l r' hr h=>?_) r s r' hr h
    dsimp only at h
    cases h1:want e [123] r with
    | error f=>rw [h1] at h;cases h
    | ok r1=>
      rw [h1] at h;simp only at h
      have k1:=zX9 hr h1
      obtain⟨⟨a1,a2⟩,a3,k2⟩:=qK9 (gF0 m (d+1) (by omega)) _ _ _ _ k1 h
      exact⟨kR5 (by have:=k1.2;omega) a2,⟨by omega,a3⟩,k2⟩
include he in
theorem kD4 {r r':List Tok} {l:List Sm} (hr:TsOk r) (h:qD e 63 r=.ok (l,r')):qO l∧zE3 l 1=true∧TsOk r':=by
  obtain⟨⟨a1,a2⟩,a3,k⟩:=qK9 (gF0 he 63 1 rfl) _ _ _ _ hr h
  exact⟨kR5 (by have:=hr.2;omega) a2,a3,k⟩
def DOk (b:Bool) (x:Dc):Prop:=zQ1 b x=true∧i64 x.wd∧i64 x.a
theorem gC2 {r r':List Tok} {x:Dc} (hr:TsOk r) (h:declP e r=.ok (x,r')):DOk false x∧TsOk r':=by
  unfold declP at h
  cases hn:zH1 e r with
  | error f=>rw [hn] at h;cases h
  | ok p=>
    obtain⟨t,r1⟩:=p
    rw [hn] at h;simp only at h
    cases h
    obtain⟨n1,n2,k⟩:=qQ5 hr hn
    exact⟨⟨by simp [zQ1,n1],qQ0 (n:=0) (by omega),n2⟩,k⟩
theorem kE6 {r r':List Tok} {x:Dc} (hr:TsOk r) (h:initP e r=.ok (x,r')):DOk true x∧TsOk r':=by
  unfold initP at h
  cases hn:zH1 e r with
  | error f=>rw [hn] at h;cases h
  | ok p=>
    obtain⟨t,r1⟩:=p
    rw [hn] at h;simp only at h
    obtain⟨n1,n2,k⟩:=qQ5 hr hn
    split at h
    · obtain⟨R,hR⟩:∃ R,R=(if isT [45] r1.tail=true then r1.tail.tail else r1.tail):=⟨_,rfl⟩
      have kR:TsOk R:=by
        rw [hR];split
        · exact k.tail.tail
        · exact k.tail
      rw [← hR] at h
      split at h
      · cases h
      · rename_i y r2 hw
        cases h
        unfold qO4 at hw
        split at hw
        · cases hw
          have hh:=kR.here.word
          refine⟨⟨?_,?_,n2⟩,kR.tail⟩
          · simp only [zQ1,n1,Bool.true_and,if_true,decide_eq_true_eq,ne_eq];split <;> omega
          · show i64 (if _ then _ else _)
            split
            · exact jH3 hh
            · exact qQ0 hh
        · cases hw
    · cases h
      exact⟨⟨by simp [zQ1,n1],qQ0 (n:=0) (by omega),n2⟩,k⟩
theorem gV7 {r r':List Tok} {x:Dc} (h:declP e r=.ok (x,r')):r'.length<r.length:=by
  unfold declP zH1 at h
  split at h
  · cases h
  · rename_i t r1 hn
    split at hn
    · rename_i hk
      cases hn;cases h
      exact zC2 (zN7 hk (by decide))
    · cases hn
theorem kY0 {r r':List Tok} {x:Dc} (h:initP e r=.ok (x,r')):r'.length<r.length:=by
  unfold initP zH1 at h
  split at h
  · cases h
  · rename_i t r1 hn
    split at hn
    · rename_i hk
      cases hn
      have h0:=zC2 (zN7 hk (by decide))
      split at h
      · obtain⟨R,hR⟩:∃ R,R=(if isT [45] r.tail.tail=true then r.tail.tail.tail else r.tail.tail):=⟨_,rfl⟩
        have kR:R.length≤r.tail.length:=by rw [hR];split <;> simp only [List.length_tail] <;> omega
        rw [← hR] at h
        unfold qO4 at h
        split at h
        · cases h
        · rename_i y r2 hw
          split at hw
          · cases hw;cases h
            have:R.tail.length≤R.length:=by simp
            omega
          · cases hw
      · cases h;exact h0
    · cases hn
theorem qH9 {one:List Tok→PR Dc} {b:Bool} (ho:∀ r x r',TsOk r→one r=.ok (x,r')→DOk b x∧TsOk r') (hl:∀ r x r',one r=.ok (x,r')→r'.length<r.length):∀ (n:Nat) (r:List Tok) (l:List Dc) (r':List Tok),TsOk r→zH0 e one n r=.ok (l,r')→(∀ x∈l,DOk b x)∧l.length+r'.length≤r.length∧TsOk r'
  | 0,r,l,r',_,h=>by simp [zH0] at h
  | n+1,r,l,r',hr,h=>by
    simp only [zH0] at h
    cases h1:one r with
    | error f=>rw [h1] at h;cases h
    | ok p=>
      obtain⟨x,r1⟩:=p
      rw [h1] at h;simp only at h
      obtain⟨a1,k1⟩:=ho _ _ _ hr h1
      have g1:=hl _ _ _ h1
      split at h
      · rename_i hc
        cases h2:zH0 e one n r1.tail with
        | error f=>rw [h2] at h;cases h
        | ok p=>
          obtain⟨l2,r2⟩:=p
          rw [h2] at h;simp only at h
          cases h
          obtain⟨b1,b2,k2⟩:=qH9 ho hl n _ _ _ k1.tail h2
          have:=zC2 (zI5 hc)
          refine⟨fun y hy=>?_,by simp only [List.length_cons];omega,k2⟩
          rcases List.mem_cons.1 hy with rfl|hy
          · exact a1
          · exact b1 y hy
      · cases h2:want e [59] r1 with
        | error f=>rw [h2] at h;cases h
        | ok r2=>
          rw [h2] at h;simp only at h
          cases h
          obtain⟨hc,rfl⟩:=qF h2
          have:=zC2 (zI5 hc)
          refine⟨fun y hy=>?_,by simp only [List.length_cons,List.length_nil];omega,k1.tail⟩
          simp only [List.mem_cons,List.not_mem_nil,or_false] at hy
          subst hy;exact a1
theorem kQ5 {b:Bool} {l:List Dc} (h:l.length≤1099511627776) (hx:∀ x∈l,DOk b x):OkD l:=⟨h,fun j x hj=>(hx x (List.mem_of_getElem? hj)).2⟩
theorem kG5 {b:Bool} {l:List Dc} (hx:∀ x∈l,DOk b x):l.all (zQ1 b)=true:=List.all_eq_true.2 fun x h=>(hx x h).1
theorem qS:∀ (n:Nat) (r:List Tok) (l:List Dc) (r':List Tok),TsOk r→zF1 e n r=.ok (l,r')→(∀ x∈l,DOk false x)∧l.length+r'.length≤r.length∧TsOk r'
  | 0,r,l,r',_,h=>by simp [zF1] at h
  | n+1,r,l,r',hr,h=>by
    simp only [zF1] at h
    split at h
    · rename_i hc
      have g0:=zC2 (zI5 hc)
      cases h1:zH0 e (declP e) (r.length+1) r.tail with
      | error f=>rw [h1] at h;cases h
      | ok p=>
        obtain⟨l1,r1⟩:=p
        rw [h1] at h;simp only at h
        obtain⟨a1,a2,k1⟩:=qH9 (fun _ _ _ h1 h2=>gC2 h1 h2) (fun _ _ _ h=>gV7 h) _ _ _ _ hr.tail h1
        cases h2:zF1 e n r1 with
        | error f=>rw [h2] at h;cases h
        | ok p=>
          obtain⟨l2,r2⟩:=p
          rw [h2] at h;simp only at h
          cases h
          obtain⟨b1,b2,k2⟩:=qS n _ _ _ k1 h2
          refine⟨fun y hy=>?_,by simp only [List.length_append];omega,k2⟩
          rcases List.mem_append.1 hy with hy|hy
          · exact a1 y hy
          · exact b1 y hy
    · cases h
      exact⟨by simp,by simp,hr⟩
def TOk (t:Th):Prop:=qL2 t=true∧OkD t.locals∧qO t.body∧i64 t.a
include he in
theorem gJ3 {r r':List Tok} {t:Th} (hr:TsOk r) (h:zM0 e r=.ok (t,r')):TOk t∧TsOk r':=by
  unfold zM0 at h
  cases hn:zH1 e r with
  | error f=>rw [hn] at h;cases h
  | ok p=>
    obtain⟨t0,r1⟩:=p
    rw [hn] at h;simp only at h
    obtain⟨n1,n2,k1⟩:=qQ5 hr hn
    cases h2:want e [123] r1 with
    | error f=>rw [h2] at h;cases h
    | ok r2=>
      rw [h2] at h;simp only at h
      have k2:=zX9 k1 h2
      cases h3:zF1 e (r2.length+1) r2 with
      | error f=>rw [h3] at h;cases h
      | ok p=>
        obtain⟨l,r3⟩:=p
        rw [h3] at h;simp only at h
        obtain⟨a1,a2,k3⟩:=qS _ _ _ _ k2 h3
        cases h4:qD e 63 r3 with
        | error f=>rw [h4] at h;cases h
        | ok p=>
          obtain⟨b,r4⟩:=p
          rw [h4] at h;simp only at h
          cases h
          obtain⟨b1,b2,k4⟩:=kD4 he k3 h4
          refine⟨⟨?_,kQ5 (by have:=k2.2;show l.length≤_;omega) a1,b1,n2⟩,k4⟩
          simp [qL2,n1,kG5 a1,b2]
include he in
theorem qM9:∀ (n:Nat) (r:List Tok) (l:List Th) (r':List Tok),TsOk r→zG0 e n r=.ok (l,r')→(∀ x∈l,TOk x)∧l.length<n∧TsOk r'
  | 0,r,l,r',_,h=>by simp [zG0] at h
  | n+1,r,l,r',hr,h=>by
    simp only [zG0] at h
    split at h
    · cases h1:zM0 e r.tail with
      | error f=>rw [h1] at h;cases h
      | ok p=>
        obtain⟨t,r1⟩:=p
        rw [h1] at h;simp only at h
        obtain⟨a1,k1⟩:=gJ3 he hr.tail h1
        cases h2:zG0 e n r1 with
        | error f=>rw [h2] at h;cases h
        | ok p=>
          obtain⟨l2,r2⟩:=p
          rw [h2] at h;simp only at h
          cases h
          obtain⟨b1,b2,k2⟩:=qM9 n _ _ _ k1 h2
          refine⟨fun y hy=>?_,by simp only [List.length_cons];omega,k2⟩
          rcases List.mem_cons.1 hy with rfl|hy
          · exact a1
          · exact b1 y hy
    · cases h
      exact⟨by simp,by simp,hr⟩
include he in
theorem qQ9:∀ (n:Nat) (r:List Tok) (p:Pg),TsOk r→zM6 e n r=.ok p→(∀ x∈p.shared,DOk true x)∧(∀ x∈p.locks,DOk false x)∧(∀ x∈p.threads,TOk x)∧p.shared.length+p.locks.length≤r.length∧p.threads.length≤1048576
  | 0,r,p,_,h=>by simp [zM6] at h
  | n+1,r,p,hr,h=>by
    simp only [zM6] at h
    split at h
    · rename_i hc
      have g0:=zC2 (zI5 hc)
      cases h1:zH0 e (initP e) (r.length+1) r.tail with
      | error f=>rw [h1] at h;cases h
      | ok q=>
        obtain⟨l,r1⟩:=q
        rw [h1] at h;simp only at h
        obtain⟨a1,a2,k1⟩:=qH9 (fun _ _ _ h1 h2=>kE6 h1 h2) (fun _ _ _ h=>kY0 h) _ _ _ _ hr.tail h1
        cases h2:zM6 e n r1 with
        | error f=>rw [h2] at h;cases h
        | ok p2=>
          rw [h2] at h;simp only at h
          cases h
          obtain⟨b1,b2,b3,b4,b5⟩:=qQ9 n _ _ k1 h2
          refine⟨fun y hy=>?_,b2,b3,by simp only [List.length_append];omega,b5⟩
          rcases List.mem_append.1 hy with hy|hy
          · exact a1 y hy
          · exact b1 y hy
    · split at h
      · rename_i hc
        have g0:=zC2 (zI5 hc)
        cases h1:zH0 e (declP e) (r.length+1) r.tail with
        | error f=>rw [h1] at h;cases h
        | ok q=>
          obtain⟨l,r1⟩:=q
          rw [h1] at h;simp only at h
          obtain⟨a1,a2,k1⟩:=qH9 (fun _ _ _ h1 h2=>gC2 h1 h2) (fun _ _ _ h=>gV7 h) _ _ _ _ hr.tail h1
          cases h2:zM6 e n r1 with
          | error f=>rw [h2] at h;cases h
          | ok p2=>
            rw [h2] at h;simp only at h
            cases h
            obtain⟨b1,b2,b3,b4,b5⟩:=qQ9 n _ _ k1 h2
            refine⟨b1,fun y hy=>?_,b3,by simp only [List.length_append];omega,b5⟩
            rcases List.mem_append.1 hy with hy|hy
            · exact a1 y hy
            · exact b2 y hy
      · cases h1:zG0 e (r.length+1) r with
        | error f=>rw [h1] at h;cases h
        | ok q=>
          obtain⟨l,r1⟩:=q
          rw [h1] at h;simp only at h
          obtain⟨a1,a2,k1⟩:=qM9 he _ _ _ _ hr h1
          split at h
          · cases h
            exact⟨by simp,by simp,a1,by simp,by have:=hr.2;show l.length≤_;omega⟩
          · cases h
end
theorem pg_of {p:Pg} (h1:∀ x∈p.shared,DOk true x) (h2:∀ x∈p.locks,DOk false x) (h3:∀ x∈p.threads,TOk x) (h4:p.shared.length+p.locks.length≤1048576) (h5:p.threads.length≤1048576):qD4 p=true∧OkP p:=by
  refine⟨?_,kQ5 (by omega) h1,kQ5 (by omega) h2,by omega,fun j t hj=>(h3 t (List.mem_of_getElem? hj)).2⟩
  unfold qD4
  rw [kG5 h1,kG5 h2,List.all_eq_true.2 fun x h=>(h3 x h).1];rfl
theorem jA1 {s:List UInt8} (hs:s.length≤65536):TsOk (zI s).1:=by
  obtain⟨h1,h2⟩:=qM2 (s:=s) (T:=(zI s).1) (f:=(zI s).2) rfl
  exact⟨fun t ht=>⟨(h2 t ht).1,(h2 t ht).2.1,by have:=(h2 t ht).2.2;omega⟩,by omega⟩
theorem gQ0 {s:List UInt8} {p:Pg} {a b:Nat} (h:zE5 s=(p,0,a,b)):qD4 p=true∧OkP p:=by
  unfold zE5 at h
  split at h
  · cases h
  · rename_i hs
    split at h
    · cases h
    · have hts:=jA1 (s:=s) (by omega)
      split at h
      · cases h
      · rename_i q hq
        cases h
        obtain⟨h1,h2,h3,h4,h5⟩:=qQ9 (e:=s.length) (by omega) _ _ _ hts hq
        have:=hts.2
        exact pg_of h1 h2 h3 (by omega) h5
end ParS
/- How many statements and expressions a tree has,and how deep it lies. -/
namespace Sx
mutual
def stS:Sm→Nat
  | .mk _ _ _ _ body els _=>1+stSs body+stSs els
termination_by structural e=>e
def stSs:List Sm→Nat
  | []=>0
  | e::r=>stS e+stSs r
termination_by structural l=>l
end
end Sx
/- How great a tree is that is parsed: no greater than its tokens make it. -/
namespace ParS
open Sx LexS
theorem tl {r:List Tok} (h:r≠[]):r.tail.length+1=r.length:=by cases r with|nil=>exact absurd rfl h|cons x l=>simp
section
variable {e:Nat}
end
end ParS
/- What is read of a tree that lies in rows. -/
namespace Sx
open Go Go.RowKit
variable {w:World} {S:Nat→Prop}
theorem zQ0 {tE tS tD tT:Nat} {p:Pg} {os ol ot:Option Addr} {cs cl ct:Nat} {B:List Nat} (h:PgS tE tS tD tT w p (pgC p os ol ot cs cl ct) B):DcRow w (fun _=>True) os p.shared∧DcRow w (fun _=>True) ol p.locks∧ThRow w (fun _=>True) ot p.threads:=by
  obtain⟨os',cs',ol',cl',ot',ct',e,h1,h2,h3⟩:=h.toV (T:=fun _=>True) (fun _ _=>trivial)
  simp only [pgC,List.cons.injEq,Value.slice.injEq,and_true,true_and] at e
  obtain⟨⟨rfl,-⟩,⟨rfl,-⟩,rfl,-⟩:=e
  exact⟨h1,h2,h3⟩
end Sx
namespace Go.Proofs.YtnmhlpnapgojjaaGreatDoor
open Go.RowKit Sx LexS ParS _root_.Go.Proofs.Tryz
theorem gU8:OkP pg0:=⟨⟨by simp [pg0],by simp [pg0]⟩,⟨by simp [pg0],by simp [pg0]⟩,⟨by simp [pg0],by simp [pg0]⟩⟩
theorem kN8 {s:List UInt8} {q:Pg} {e a b:Nat} (h:zE5 s=(q,e,a,b)) (h0:e≠0):q=pg0:=by
 unfold zE5 at h;split at h;cases h;rfl;split at h;cases h;rfl;split at h;cases h;rfl;cases h;exact absurd rfl h0
theorem okP_z {s:List UInt8} {q:Pg} {e a b:Nat} (h:zE5 s=(q,e,a,b)):OkP q:=by
 by_cases h0:e=0
 subst h0;exact(gQ0 h).2;rw [kN8 h h0];exact gU8
theorem gZ1 {p:Pg} {s:List UInt8} (h:zY6 p=(s,0)):qD4 p=true∧(pgT p).length≤65536∧pgT p=s:=by
 unfold zY6 at h;split at h;split at h;rename_i h1 h2;cases h;exact⟨h1,h2,rfl⟩;cases h;cases h
def zY0 (p:Pg):Pg×Nat:=if (zY6 p).2=0 then ((zE5 (zY6 p).1).1,0) else (pg0,(zY6 p).2)
theorem gM9 {p q:Pg} {s:List UInt8} {e a b:Nat} (hok:OkP p) (hp:zY6 p=(s,0)) (hq:zE5 s=(q,e,a,b)):e=0:=by
 obtain⟨h1,h2,rfl⟩:=gZ1 hp;obtain⟨q',h3,-⟩:=gI2 h1 hok h2;rw [hq] at h3;simp only [Prod.mk.injEq] at h3;exact h3.2.1
theorem jC4 {p q:Pg} {e:Nat} (h:zY0 p=(q,e)):OkP q:=by
 unfold zY0 at h;split at h;cases h;exact okP_z (s:=(zY6 p).1) rfl;cases h;exact gU8
theorem kV8 (p:Pg):trP (Pq.tnm [] []) (Pq.tat true) p=qE p:=by
 have h1:Pq.tnm [] []=idS:=by funext s;unfold Pq.tnm;split <;> simp_all
 have h2:Pq.tat true=no0:=by funext n;rfl
 rw [h1,h2]
theorem kS3 (p:Pg) (os ol ot:Option Addr) (cs cl ct:Nat) (w:World) (hSh:DcRow w (·<w.heap.size) os p.shared) (hL:DcRow w (·<w.heap.size) ol p.locks) (hT:ThRow w (·<w.heap.size) ot p.threads) (hok:OkP p) (hsg:Sig w) (hlen:qD4 p=true→(pgT p).length≤1099511627776) :
    Ret Tryz.prog 12 [.agg (pgL p os ol ot cs cl ct).toArray] w fun v w'=>∃ vp,v=.tuple #[vp,.int .i64 ((zY0 p).2:Int)]∧Pq.HP w (zY0 p).1 vp w'∧Chg [] w w':=by
 refine zB [_] func12 rfl ntmps12 rfl ?_;have st:=St.init w [];obtain⟨w0,rfl⟩:∃ w0,w0=w:=⟨_,rfl⟩
 obtain⟨s,e1,hpr⟩:∃ s e1,zY6 p=(s,e1):=⟨_,_,rfl⟩
 have hlr:zY0 p=if e1=0 then ((zE5 s).1,0) else (pg0,e1):=by unfold zY0;rw [hpr]
 refine sr ?_;refine zA3 (zT2 (l:=[_,_,_]) st rfl rfl rfl rfl ?_);intro b1 w hb1 st;refine zA3 (zF8 (l:=[_,_,_]) st rfl rfl qV26 rfl ?_);intro b2 w hb2 st;refine ya ?_;refine et (sr ?_);refine yla st 1 [_,_,_] qA26 qZ26 ?_;refine zA3 (zA1 [_] rfl rfl call11 rfl (qK0 p _ _ _ _ _ _ _ (RowC.mono (RowC.kept hSh st.sm) (fun b hb=>Nat.lt_of_lt_of_le hb st.chg.size)) (RowC.mono (RowC.kept hL st.sm) (fun b hb=>Nat.lt_of_lt_of_le hb st.chg.size)) ((hT.kept st.sm).mono (fun b hb=>Nat.lt_of_lt_of_le hb st.chg.size)) hok (hsg.kept st.chg) hlen) ?_);rintro _ w ⟨rfl,cw⟩;replace st:=st.call0 cw;rw [hpr];refine ym ?_;(iterate 2 refine vy (zV7 rfl rfl) ?_);(iterate 2 refine ya ?_);refine et (zC5 (sr ?_));refine ym ?_;refine vy (zR rfl rfl) ?_;refine et ?_;refine vif ?_ ?_;intro hc15;(try simp only [dn] at hc15);have he1:¬ e1=0:=by omega
 rw [if_neg he1] at hlr;refine sr ?_;refine vy (ybd (.agg #[_,_,_]) []) ?_;refine ym ?_;refine zA3 (zC4 st 0 [_,_,_] qZ26 ?_);intro w st;dsimp only [zA0,wr] at st;refine ya ?_;refine et (zA8 (zA ?_));refine zG3 st (.inl rfl) results12 (by exact .cell 0 rfl rfl qA26 qZ26) (.tmp rfl) ?_;refine⟨_,rfl,?_⟩;refine⟨_,by rw [hlr],by rw [hlr];exact Pq.hp_none _ _,st.chg⟩;intro hc15;(try simp only [dn] at hc15);have he1:e1=0:=by omega
 rw [if_pos he1] at hlr;obtain⟨q,e2,fa,fr,hq⟩:∃ q e2 fa fr,zE5 s=(q,e2,fa,fr):=⟨_,_,_,_,rfl⟩
 rw [hq] at hlr;refine kt (sr ?_);refine ym ?_;refine zA3 (zA1 [_] rfl rfl call10 rfl (Pq.parse_any s _ (SigAt.kept hsg st.chg (by simp))) ?_);rintro _ w h;rw [Pq.ParsePost,hq] at h;dsimp only at h;obtain⟨cw,_,⟨os1,ol1,ot1,cs1,cl1,ct1,Sq1,rfl,hQ1,hN⟩,rfl⟩:=h;have hNw1:=hN.le st.chg.size;replace st:=st.pushR cw (Sx.holds_pg hQ1) hN.2;refine ym ?_;(iterate 3 refine vy (zV7 rfl rfl) ?_);refine zA3 (zF8 (l:=[_,_,_]) st rfl rfl qV26 rfl ?_);intro b6 w hb6 st;refine zA3 (zF8 (l:=[_,_]) st rfl rfl qV29 rfl ?_);intro b8 w hb8 st;refine zA3 (zC4 st 1 [_,_,_] qZ26 ?_);intro w st;dsimp only [zA0,wr] at st;refine ya ?_;refine zA3 (zC4 st 0 [_,_] qZ29 ?_);intro w st;dsimp only [zA0,wr] at st;refine et (sr ?_);refine yla st 1 [_,_,_] qA26 qZ26 ?_;refine zA3 (zC4 st 3 [_,_,_] qZ26 ?_);intro w st;dsimp only [zA0,wr] at st;refine ya ?_;refine et (zA8 ?_);refine zG3 st (.inl rfl) results12 (by exact .cell 3 rfl rfl qA26 qZ26) (.tmp rfl) ?_;refine⟨_,rfl,?_⟩;refine⟨_,by rw [hlr];rfl,by rw [hlr];exact⟨os1,ol1,ot1,cs1,cl1,ct1,Sq1,rfl,(by exact(st.res (i:=2) rfl).1),hNw1⟩,st.chg⟩
theorem kJ3 (p:Pg) (os ol ot:Option Addr) (cs cl ct:Nat) (w:World) (hSh:DcRow w (·<w.heap.size) os p.shared) (hL:DcRow w (·<w.heap.size) ol p.locks) (hT:ThRow w (·<w.heap.size) ot p.threads) (hok:OkP p) (hsg:Sig w) (hlen:qD4 p=true→(pgT p).length≤1099511627776) :
    Ret Tryz.prog 26 [.agg (pgL p os ol ot cs cl ct).toArray] w fun v w'=>∃ vp,v=.tuple #[vp,.int .i64 ((zY0 p).2:Int)]∧Pq.HP w (zY0 p).1 vp w'∧Chg [] w w':=by
 refine zB [_] func26 rfl ntmps26 rfl ?_;have st:=St.init w [];obtain⟨w0,rfl⟩:∃ w0,w0=w:=⟨_,rfl⟩
 obtain⟨s,e1,hpr⟩:∃ s e1,zY6 p=(s,e1):=⟨_,_,rfl⟩
 have hlr:zY0 p=if e1=0 then ((zE5 s).1,0) else (pg0,e1):=by unfold zY0;rw [hpr]
 refine sr ?_;refine zA3 (zT2 (l:=[_,_,_]) st rfl rfl rfl rfl ?_);intro b1 w hb1 st;refine zA3 (zF8 (l:=[_,_,_]) st rfl rfl qV26 rfl ?_);intro b2 w hb2 st;refine ya ?_;refine et (sr ?_);refine yla st 1 [_,_,_] qA26 qZ26 ?_;refine zA3 (zA1 [_] rfl rfl call72 rfl (gP4 p _ _ _ _ _ _ _ (RowC.mono (RowC.kept hSh st.sm) (fun b hb=>Nat.lt_of_lt_of_le hb st.chg.size)) (RowC.mono (RowC.kept hL st.sm) (fun b hb=>Nat.lt_of_lt_of_le hb st.chg.size)) ((hT.kept st.sm).mono (fun b hb=>Nat.lt_of_lt_of_le hb st.chg.size)) hok) ?_);rintro _ w ⟨rfl,cw⟩;replace st:=st.call0 cw;rw [hpr];refine ym ?_;(iterate 2 refine vy (zV7 rfl rfl) ?_);(iterate 2 refine ya ?_);refine et (zC5 (sr ?_));refine ym ?_;refine vy (zR rfl rfl) ?_;refine et ?_;refine vif ?_ ?_;intro hc14;(try simp only [dn] at hc14);have he1:¬ e1=0:=by omega
 rw [if_neg he1] at hlr;refine sr ?_;refine vy (ybd (.agg #[_,_,_]) []) ?_;refine ym ?_;refine zA3 (zC4 st 0 [_,_,_] qZ26 ?_);intro w st;dsimp only [zA0,wr] at st;refine ya ?_;refine et (zA8 (zA ?_));refine zG3 st (.inl rfl) results26 (by exact .cell 0 rfl rfl qA26 qZ26) (.tmp rfl) ?_;refine⟨_,rfl,?_⟩;refine⟨_,by rw [hlr],by rw [hlr];exact Pq.hp_none _ _,st.chg⟩;intro hc14;(try simp only [dn] at hc14);have he1:e1=0:=by omega
 rw [if_pos he1] at hlr;subst he1;obtain⟨q,e2,fa,fr,hq⟩:∃ q e2 fa fr,zE5 s=(q,e2,fa,fr):=⟨_,_,_,_,rfl⟩
 rw [hq] at hlr;have he2:=gM9 hok hpr hq;subst he2;refine kt (sr ?_);refine ym ?_;refine zA3 (zA1 [_] rfl rfl call73 rfl (Pq.rparse_any s _) ?_);rintro _ w h;rw [Pq.ParsePost,hq] at h;dsimp only at h;obtain⟨cw,_,⟨os1,ol1,ot1,cs1,cl1,ct1,Sq1,rfl,hQ1,hN⟩,rfl⟩:=h;have hNw1:=hN.le st.chg.size;replace st:=st.pushR cw (Sx.holds_pg hQ1) hN.2;refine ym ?_;(iterate 3 refine vy (zV7 rfl rfl) ?_);refine zA3 (zF8 (l:=[_,_,_]) st rfl rfl qV26 rfl ?_);intro b6 w hb6 st;refine zA3 (zF8 (l:=[_,_]) st rfl rfl qV29 rfl ?_);intro b7 w hb7 st;refine zA3 (zC4 st 1 [_,_,_] qZ26 ?_);intro w st;dsimp only [zA0,wr] at st;refine ya ?_;refine zA3 (zC4 st 0 [_,_] qZ29 ?_);intro w st;dsimp only [zA0,wr] at st;refine et (sr ?_);refine yla st 1 [_,_,_] qA26 qZ26 ?_;refine ym ?_;refine zA3 (zC4 st 3 [_,_,_] qZ26 ?_);intro w st;dsimp only [zA0,wr] at st;refine ya ?_;refine et (zA8 ?_);refine zG3 st (.inl rfl) results26 (by exact .cell 3 rfl rfl qA26 qZ26) (.tmp rfl) ?_;refine⟨_,rfl,?_⟩;refine⟨_,by rw [hlr],by rw [hlr];exact⟨os1,ol1,ot1,cs1,cl1,ct1,Sq1,rfl,(by exact(st.res (i:=2) rfl).1),hNw1⟩,st.chg⟩
theorem kF3 {n0:Nat} (p:Pg) (hok:OkP p) (os ol ot:Option Addr) (cs cl ct:Nat) (w:World) (hSh:DcRow w (·<n0) os p.shared) (hL:DcRow w (·<n0) ol p.locks) (hT:ThRow w (·<n0) ot p.threads) (hn0:n0≤w.heap.size) :
    Ret Tryz.prog 27 [.agg (pgL p os ol ot cs cl ct).toArray] w fun v w'=>∃ (gs gl gt:Option Addr) (gcs gcl gct:Nat) (S:List Nat),v=.agg (pgL (qE p) gs gl gt gcs gcl gct).toArray∧PgQ w' (qE p) (pgL (qE p) gs gl gt gcs gcl gct) S∧Nw w.heap.size S∧Chg [] w w':=by
 refine zB [_] func27 rfl ntmps27 rfl ?_;have st:=St.init w [];obtain⟨w0,rfl⟩:∃ w0,w0=w:=⟨_,rfl⟩
 refine a2 ?_;refine zA3 (zT2 (l:=[_,_,_]) st rfl rfl rfl rfl ?_);intro b1 w hb1 st;refine zA3 (zF8 (l:=[_,_,_]) st rfl rfl qV26 rfl ?_);intro b2 w hb2 st;refine a4 ?_;refine vy (jK (.agg (Pq.tvL true [] []).toArray) [(0,_)] rfl (fun w=>by simp [Instr.build,go_sem])) ?_;refine zA3 (zF8 (l:=[_,_,_]) st rfl rfl zeroValue99 rfl ?_);intro b3 w hb3 st;refine zA3 (zC4 st 0 [_,_,_] qZ99 ?_);intro w st;refine a4 ?_;refine yla st 0 [_,_,_] qA99 qZ99 ?_;refine yla st 2 [_,_,_] qA26 qZ26 ?_;refine zA3 (zA1 [_,_] rfl rfl call59 rfl (Pq.tprog_any (n0:=n0) true [] [] p hok _ _ _ _ _ _ _ (RowC.kept hSh st.sm) (RowC.kept hL st.sm) (hT.kept st.sm) (Nat.le_trans hn0 st.chg.size)) ?_);rintro _ w ⟨l,S,rfl,hQ,hN,cw⟩;have hN1:=hN.le st.chg.size;rw [kV8] at hQ;obtain⟨gs,gcs,gl,gcl,gt,gct,T1,T2,T3,e,hh⟩:=id hQ;subst e;replace st:=st.pushR cw (Sx.holds_pg hQ) hN.2;refine zA3 (zC4 st 2 [_,_,_] qZ26 ?_);intro w st;refine a3 ?_;refine zB7 st (.inl rfl) results27 (by exact .cell 2 rfl rfl qA26 qZ26) ?_;refine⟨_,rfl,?_⟩;exact⟨gs,gl,gt,gcs,gcl,gct,S,rfl,(by exact(st.res (i:=0) rfl).1),hN1,st.chg⟩
set_option maxHeartbeats 4000000 in
theorem gF4 (p:Pg) (os ol ot:Option Addr) (cs cl ct:Nat) (w:World) (hSh:DcRow w (·<w.heap.size) os p.shared) (hL:DcRow w (·<w.heap.size) ol p.locks) (hT:ThRow w (·<w.heap.size) ot p.threads) (hok:OkP p) (hsg:Sig w) (hlen:qD4 p=true→(pgT p).length≤1099511627776) :
    Ret Tryz.prog 7 [.agg (pgL p os ol ot cs cl ct).toArray] w fun v w'=>v=.bool true∧Chg [] w w':=by
 refine zB [_] func7 rfl ntmps7 rfl ?_;have st:=St.init w [];obtain⟨w0,rfl⟩:∃ w0,w0=w:=⟨_,rfl⟩
 obtain⟨q,e,hq⟩:∃ q e,zY0 p=(q,e):=⟨_,_,rfl⟩
 have hokq:=jC4 hq;have hoks:OkP (qE p):=jK2 (fun a _=>by unfold i64;simp [no0]) hok;refine sr ?_;refine zA3 (zT2 (l:=[_,_,_]) st rfl rfl rfl rfl ?_);intro b1 w hb1 st;refine ya ?_;refine et (sr ?_);refine yla st 0 [_,_,_] qA26 qZ26 ?_;refine zA3 (zA1 [_] rfl rfl call12 rfl (kS3 p _ _ _ _ _ _ _ (RowC.mono (RowC.kept hSh st.sm) (fun b hb=>Nat.lt_of_lt_of_le hb st.chg.size)) (RowC.mono (RowC.kept hL st.sm) (fun b hb=>Nat.lt_of_lt_of_le hb st.chg.size)) ((hT.kept st.sm).mono (fun b hb=>Nat.lt_of_lt_of_le hb st.chg.size)) hok (hsg.kept st.chg) hlen) ?_);rintro _ w ⟨_,rfl,⟨os1,ol1,ot1,cs1,cl1,ct1,Sq1,rfl,hQ1,hN⟩,cw⟩;rw [hq] at hQ1 ⊢;replace st:=st.pushR cw (Sx.holds_pg hQ1) hN.2;refine ym ?_;(iterate 2 refine vy (zV7 rfl rfl) ?_);refine zA3 (zF8 (l:=[_,_,_]) st rfl rfl qV26 rfl ?_);intro b3 w hb3 st;refine zA3 (zC4 st 0 [_,_,_] qZ26 ?_);intro w st;dsimp only [zA0,wr] at st;refine ya ?_;refine et (sr ?_);refine yla st 2 [_,_,_] qA26 qZ26 ?_;refine zA3 (zA1 [_] rfl rfl call26 rfl (kJ3 p _ _ _ _ _ _ _ (RowC.mono (RowC.kept hSh st.sm) (fun b hb=>Nat.lt_of_lt_of_le hb st.chg.size)) (RowC.mono (RowC.kept hL st.sm) (fun b hb=>Nat.lt_of_lt_of_le hb st.chg.size)) ((hT.kept st.sm).mono (fun b hb=>Nat.lt_of_lt_of_le hb st.chg.size)) hok (hsg.kept st.chg) hlen) ?_);rintro _ w ⟨_,rfl,⟨os2,ol2,ot2,cs2,cl2,ct2,Sq2,rfl,hQ2,hN⟩,cw⟩;rw [hq] at hQ2 ⊢;replace st:=st.pushR cw (Sx.holds_pg hQ2) hN.2;refine ym ?_;(iterate 2 refine vy (zV7 rfl rfl) ?_);refine zA3 (zF8 (l:=[_,_,_]) st rfl rfl qV26 rfl ?_);intro b5 w hb5 st;refine zA3 (zC4 st 0 [_,_,_] qZ26 ?_);intro w st;dsimp only [zA0,wr] at st;refine ya ?_;refine et (zC5 ?_);refine qJ5 Tryz.mixed [Yt 0,Yt 1,Nt 2,Yt 3,Yt 4,Yt 5,Yt 6,Yt 7,Yt 8,Yt 9,Yt 11,Nt 10,Nt 12,Nt 13,Yt 14,Yt 15,Nt 16,Yt 17,Yt 18] st ?_;clear st;intro w st hS;refine zA2 rfl rfl rfl hS (fun w st=>zS7 (vs:=[_,_,_]) st 2 rfl qA26 qZ26 rfl rfl) ?_;refine zA2 rfl rfl rfl hS (fun w st=>zS7 (vs:=[_,_,_]) st 0 rfl qA26 qZ26 rfl rfl) ?_;refine zD0 rfl (zA1 [_,_] rfl rfl call13 rfl (qR5 (S:=fun _=>True) q q hokq _ _ _ _ _ _ _ _ _ _ _ _ _ (zQ0 (st.res (i:=3) rfl).1).1 (zQ0 (st.res (i:=3) rfl).1).2.1 (zQ0 (st.res (i:=3) rfl).1).2.2 (zQ0 (st.res (i:=1) rfl).1).1 (zQ0 (st.res (i:=1) rfl).1).2.1 (zQ0 (st.res (i:=1) rfl).1).2.2) ?_);rintro _ w ⟨rfl,cw⟩;replace st:=st.call0 cw;rw [qY];refine zA9 (by exact st) ?_;intro hS;refine zL4 rfl rfl rfl hS rfl ?_ ?_;intro hg20;(try simp only [dn] at hg20);(iterate 2 refine pm hS ?_);refine zA2 rfl rfl rfl hS (fun w st=>zK5 rfl rfl) ?_;refine zA2 rfl rfl rfl hS (fun w st=>zJ0 rfl rfl) ?_;refine zL4 rfl rfl rfl hS rfl ?_ ?_;intro hg25;(try simp only [dn] at hg25)
 (iterate 2 refine zA2 rfl rfl rfl hS (fun w st=>zS7 (vs:=[_,_,_]) st 4 rfl qA26 qZ26 rfl rfl) ?_);refine zD0 rfl (zA1 [_] rfl rfl call24 rfl (kH0 (n0:=w0.heap.size) p hok _ _ _ _ _ _ _ (RowC.kept hSh st.sm) (RowC.kept hL st.sm) (hT.kept st.sm) st.chg.size) ?_);rintro _ w ⟨g3s,g3l,g3t,c3s,c3l,c3t,S3,rfl,hQ,hN,cw⟩;replace st:=st.pushR cw (Sx.holds_pg hQ) hN.2;refine zA9 st.dr ?_;intro hS;refine zD0 rfl (zA1 [_] rfl rfl call27 rfl (kF3 (n0:=w0.heap.size) p hok _ _ _ _ _ _ _ (RowC.kept hSh st.sm) (RowC.kept hL st.sm) (hT.kept st.sm) st.chg.size) ?_);rintro _ w ⟨g4s,g4l,g4t,c4s,c4l,c4t,S4,rfl,hQ,hN,cw⟩;replace st:=st.pushR cw (Sx.holds_pg hQ) hN.2;refine zA9 st.dr ?_;intro hS;refine zD0 rfl (zA1 [_,_] rfl rfl call13 rfl (qR5 (S:=fun _=>True) (qE p) (qE p) hoks _ _ _ _ _ _ _ _ _ _ _ _ _ (zQ0 (st.res (i:=1) rfl).1).1 (zQ0 (st.res (i:=1) rfl).1).2.1 (zQ0 (st.res (i:=1) rfl).1).2.2 (zQ0 (st.res (i:=0) rfl).1).1 (zQ0 (st.res (i:=0) rfl).1).2.1 (zQ0 (st.res (i:=0) rfl).1).2.2) ?_);rintro _ w ⟨rfl,cw⟩;replace st:=st.call0 cw;rw [qY];refine zA9 st.dr ?_;intro hS;refine zA2 rfl rfl rfl hS (fun w st=>zJ0 rfl rfl) ?_;refine zL4 rfl rfl rfl hS rfl ?_ ?_;intro hg32;(try simp only [dn] at hg32);refine zD0 rfl (zA1 [] rfl rfl call9 rfl (kD3 _ (hsg.kept st.chg)) ?_);rintro _ w ⟨rfl,cw⟩;replace st:=st.call0 cw;refine zA9 st.dr ?_;intro hS;refine zA2 rfl rfl rfl hS (fun w st=>zJ0 rfl rfl) ?_;refine zA2 rfl rfl rfl hS (fun w st=>qL1 rfl) ?_;refine zC6 (zA6 (zA8 ?_));refine vr1 st results7 ?_;refine⟨?_,st.chg⟩;rfl;intro hg32;exact absurd hg32 (by simp);intro hg25;exact absurd hg25 (by simp);intro hg20;exact absurd hg20 (by simp)
end Go.Proofs.YtnmhlpnapgojjaaGreatDoor
