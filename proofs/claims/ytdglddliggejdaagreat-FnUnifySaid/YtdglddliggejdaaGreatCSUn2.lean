/- A part of the proof of a statement of this seat: see the text that holds the theorem. No condition. -/
import Derived.Test.YtdglddliggejdaaGreatPApply
import Derived.Test.YtdglddliggejdaaGreatPTCMatch2
set_option linter.unusedVariables false
set_option linter.unusedSimpArgs false
set_option linter.all false
set_option linter.unusedSimpArgs false
set_option linter.unusedVariables false
namespace Go.Sim

section
variable (V:Nat→Bool)
def sb (θ:Nat→Ty):Ty→Ty
 | .k c=>if V c=true then θ c else .k c
 | .u c a=>.u c (sb θ a)
 | .w c a b=>.w c (sb θ a) (sb θ b)
def occ (v:Nat):Ty→Bool
 | .k c=>decide (c=v)
 | .u _ a=>occ v a
 | .w _ a b=>occ v a || occ v b
end
section
variable {V:Nat→Bool}
theorem Zue (θ F:Nat→Ty):∀ t:Ty,sb V θ (sb V F t)=sb V (fun c=>sb V θ (F c)) t
 | .k c=>by by_cases h:V c=true <;> simp [sb,h]
 | .u c a=>by simp only [sb,Zue θ F a]
 | .w c a b=>by simp only [sb,Zue θ F a,Zue θ F b]
theorem Ydi:∀ t:Ty,sb V .k t=t
 | .k c=>by unfold sb; split <;> rfl
 | .u c a=>by simp only [sb,Ydi a]
 | .w c a b=>by simp only [sb,Ydi a,Ydi b]
theorem Zok {θ θ':Nat→Ty}:∀ {t:Ty},(∀ c,V c=true→occ c t=true→θ c=θ' c)→sb V θ t=sb V θ' t
 | .k c,h=>by
  unfold sb
  by_cases hv:V c=true
  ·rw [if_pos hv,if_pos hv,h c hv (by simp [occ])]
  ·rw [if_neg hv,if_neg hv]
 | .u c a,h=>by simp only [sb,Zok (t:=a) fun c hv ho=>h c hv (by simpa [occ] using ho)]
 | .w c a b,h=>by
  simp only [sb,Zok (t:=a) fun c hv ho=>h c hv (by simp [occ,ho]),Zok (t:=b) fun c hv ho=>h c hv (by simp [occ,ho])]
theorem Zvj {F:Nat→Ty}:∀ {t:Ty},sb V F t=t→∀ c,V c=true→occ c t=true→F c=.k c
 | .k d,h,c,hv,ho=>by
  simp [occ] at ho; subst ho
  unfold sb at h; rw [if_pos hv] at h; exact h
 | .u d a,h,c,hv,ho=>by simp only [sb,Ty.u.injEq,true_and] at h; exact Zvj h c hv (by simpa [occ] using ho)
 | .w d a b,h,c,hv,ho=>by
  simp only [sb,Ty.w.injEq,true_and] at h
  simp only [occ,Bool.or_eq_true] at ho
  rcases ho with ho | ho
  ·exact Zvj h.1 c hv ho
  ·exact Zvj h.2 c hv ho
theorem Zlx (t:Ty):1≤t.size:=by cases t <;> simp [Ty.size]
theorem Zte {θ:Nat→Ty} {x:Nat} (hx:V x=true):∀ {t:Ty},occ x t=true→(θ x).size≤(sb V θ t).size
 | .k d,ho=>by simp [occ] at ho; subst ho; unfold sb; rw [if_pos hx]; exact Nat.le_refl _
 | .u d a,ho=>by have:=Zte (θ:=θ) hx (t:=a) (by simpa [occ] using ho); simp only [sb,Ty.size]; omega
 | .w d a b,ho=>by
  simp only [occ,Bool.or_eq_true] at ho
  simp only [sb,Ty.size]
  rcases ho with ho | ho
  ·have:=Zte (θ:=θ) hx ho; omega
  ·have:=Zte (θ:=θ) hx ho; omega
theorem Zyj {θ:Nat→Ty} {x:Nat} (hx:V x=true) {t:Ty} (ho:occ x t=true) (hne:t≠.k x):(θ x).size < (sb V θ t).size:=by
 cases t with
 | k d=>simp [occ] at ho; exact absurd (by rw [ho]) hne
 | u d a=>have:=Zte (θ:=θ) hx (t:=a) (by simpa [occ] using ho); simp only [sb,Ty.size]; omega
 | w d a b=>
  simp only [occ,Bool.or_eq_true] at ho
  simp only [sb,Ty.size]
  rcases ho with ho | ho
  ·have:=Zte (θ:=θ) hx ho; omega
  ·have:=Zte (θ:=θ) hx ho; omega

inductive Wlk (σ:Nat→Option Ty):Nat→Ty→Ty→Prop
 | stop {t:Ty}:(∀ c,t=.k c→σ c=none)→Wlk σ 0 t t
 | step {c n:Nat} {u t:Ty}:σ c=some u→Wlk σ n u t→Wlk σ (n + 1) (.k c) t
theorem Wlk.end_ {σ:Nat→Option Ty} {n:Nat} {s t:Ty} (h:Wlk σ n s t):∀ c,t=.k c→σ c=none:=by
 induction h with
 | stop h=>exact h
 | step _ _ ih=>exact ih
theorem Wlk.det {σ:Nat→Option Ty} {n m:Nat} {s t t':Ty} (h:Wlk σ n s t) (h':Wlk σ m s t'):t=t'∧n=m:=by
 induction h generalizing m with
 | stop h=>
  cases h' with
  | stop _=>exact ⟨rfl,rfl⟩
  | step h1 _=>rw [h _ rfl] at h1; cases h1
 | step h1 _ ih=>
  cases h' with
  | stop h2=>rw [h2 _ rfl] at h1; cases h1
  | step h2 h3=>rw [h1] at h2; cases h2; obtain ⟨e1,e2⟩:=ih h3; exact ⟨e1,by rw [e2]⟩
structure Rsv (V:Nat→Bool) (σ:Nat→Option Ty) (F:Nat→Ty):Prop where
 dom:∀ c t,σ c=some t→V c=true
 non:∀ c,σ c=none→F c=.k c
 som:∀ c t,σ c=some t→F c=sb V F t
 wlk:∀ c,∃ n t,Wlk σ n (.k c) t
def Sol (V:Nat→Bool) (σ:Nat→Option Ty) (θ:Nat→Ty):Prop:=∀ c t,σ c=some t→θ c=sb V θ t
def Inc (rk:Nat→Nat) (V:Nat→Bool) (σ:Nat→Option Ty):Prop:=∀ c d,σ c=some (.k d)→V d=true→rk c < rk d
theorem Rsv.nil:Rsv V (fun _=>none) .k:=⟨fun c t h=>(by cases h),fun _ _=>rfl,fun c t h=>(by cases h),fun c=>⟨0,_,.stop fun _ _=>rfl⟩⟩
theorem Sol.nil {θ:Nat→Ty}:Sol V (fun _=>none) θ:=fun c t h=>by cases h
variable {σ:Nat→Option Ty} {F:Nat→Ty}
theorem Rsv.walk (r:Rsv V σ F) (t:Ty):∃ n t',Wlk σ n t t':=by
 cases t with
 | k c=>exact r.wlk c
 | u c a=>exact ⟨0,_,.stop fun c h=>by cases h⟩
 | w c a b=>exact ⟨0,_,.stop fun c h=>by cases h⟩
theorem Rsv.var (r:Rsv V σ F) {c:Nat} (h:σ c=none):sb V F (.k c)=.k c:=by unfold sb; split; exact r.non c h; rfl
theorem Wlk.sbF (r:Rsv V σ F) {n:Nat} {s t:Ty} (h:Wlk σ n s t):sb V F s=sb V F t:=by
 induction h with
 | stop=>rfl
 | step h1 _ ih=>rw [← ih,sb,if_pos (r.dom _ _ h1),r.som _ _ h1]
theorem Wlk.sbS (r:Rsv V σ F) {θ:Nat→Ty} (hs:Sol V σ θ) {n:Nat} {s t:Ty} (h:Wlk σ n s t):sb V θ s=sb V θ t:=by
 induction h with
 | stop=>rfl
 | step h1 _ ih=>rw [← ih,sb,if_pos (r.dom _ _ h1),hs _ _ h1]
theorem Rsv.solF (r:Rsv V σ F):Sol V σ F:=fun c t h=>r.som c t h
theorem Yim (r:Rsv V σ F) {θ:Nat→Ty} (hs:Sol V σ θ):∀ (N:Nat) (t:Ty),(sb V F t).size≤N→sb V θ (sb V F t)=sb V θ t:=by
 intro N
 induction N with
 | zero=>intro t h; have:=Zlx (sb V F t); omega
 | succ N ih=>
  intro t h
  obtain ⟨n,t',hw⟩:=r.walk t
  rw [hw.sbF r] at h ⊢
  rw [hw.sbS r hs]
  have hend:=hw.end_
  cases t' with
  | k c=>rw [r.var (hend c rfl)]
  | u c a=>simp only [sb,Ty.size] at h ⊢; rw [ih a (by omega)]
  | w c a b=>simp only [sb,Ty.size] at h ⊢; rw [ih a (by omega),ih b (by omega)]
theorem Rsv.gen (r:Rsv V σ F) {θ:Nat→Ty} (hs:Sol V σ θ) {c:Nat} (hv:V c=true):sb V θ (F c)=θ c:=by
 have:=Yim r hs _ (.k c) (Nat.le_refl _)
 simpa [sb,hv] using this
theorem Rsv.idem (r:Rsv V σ F) (t:Ty):sb V F (sb V F t)=sb V F t:=Yim r r.solF _ t (Nat.le_refl _)

def upd (σ:Nat→Option Ty) (x:Nat) (b:Ty):Nat→Option Ty:=fun c=>if c=x then some b else σ c
def sng (x:Nat) (B:Ty):Nat→Ty:=fun c=>if c=x then B else .k c
theorem Yhs {x:Nat} {B t:Ty} (h:occ x t=false):sb V (sng x B) t=t:=by
 conv=>rhs; rw [← Ydi (V:=V) t]
 refine Zok fun c hv ho=>?_
 unfold sng
 rw [if_neg]
 rintro rfl; rw [h] at ho; cases ho
theorem Rsv.bind (r:Rsv V σ F) {x:Nat} {b:Ty} (hx:σ x=none) (hv:V x=true) (hb:∀ c,b=.k c→σ c=none∧c≠x) (ho:occ x (sb V F b)=false) :
  Rsv V (upd σ x b) (fun c=>sb V (sng x (sb V F b)) (F c))∧∀ θ,Sol V (upd σ x b) θ ↔ Sol V σ θ∧θ x=sb V θ b:=by
 refine ⟨⟨?_,?_,?_,?_⟩,?_⟩
 ·intro c t h
  unfold upd at h
  by_cases e:c=x
  ·rw [e]; exact hv
  ·rw [if_neg e] at h; exact r.dom c t h
 ·intro c h
  unfold upd at h
  by_cases e:c=x
  ·rw [if_pos e] at h; cases h
  ·rw [if_neg e] at h
   show sb V _ (F c)=_
   rw [r.non c h]
   exact Yhs (by simp [occ,e])
 ·intro c t h
  show sb V _ (F c)=sb V (fun c=>sb V (sng x (sb V F b)) (F c)) t
  rw [← Zue]
  unfold upd at h
  by_cases e:c=x
  ·rw [if_pos e] at h; cases h
   rw [Yhs ho,e,r.non x hx]
   simp [sb,hv,sng]
  ·rw [if_neg e] at h
   rw [r.som c t h]
 ·intro c
  have key:∀ {n:Nat} {s t:Ty},Wlk σ n s t→∃ n t',Wlk (upd σ x b) n s t':=by
   intro n s t hw
   induction hw with
   | @stop t h=>
    by_cases e:t=.k x
    ·subst e
     refine ⟨1,b,.step (u:=b) (by simp [upd]) (.stop fun c hc=>?_)⟩
     obtain ⟨h1,h2⟩:=hb c hc
     simp [upd,h2,h1]
    ·refine ⟨0,_,.stop fun c hc=>?_⟩
     have:c≠x:=fun e'=>e (by rw [hc,e'])
     simp [upd,this,h c hc]
   | @step d n u t h1 _ ih=>
    obtain ⟨n',t',hw'⟩:=ih
    have:d≠x:=fun e=>by rw [e,hx] at h1; cases h1
    exact ⟨n' + 1,t',.step (by simp [upd,this,h1]) hw'⟩
  obtain ⟨n,t,hw⟩:=r.wlk c
  exact key hw
 ·intro θ
  constructor
  ·intro h
   refine ⟨fun c t hc=>h c t ?_,h x b (by simp [upd])⟩
   have:c≠x:=fun e=>by rw [e,hx] at hc; cases hc
   simp [upd,this,hc]
  ·rintro ⟨h1,h2⟩ c t hc
   unfold upd at hc
   by_cases e:c=x
   ·rw [if_pos e] at hc; cases hc; rw [e]; exact h2
   ·rw [if_neg e] at hc; exact h1 c t hc
theorem Inc.bind {rk:Nat→Nat} (h:Inc rk V σ) {x:Nat} {b:Ty} (hb:∀ d,b=.k d→V d=true→rk x < rk d):Inc rk V (upd σ x b):=by
 intro c d hc hd
 unfold upd at hc
 by_cases e:c=x
 ·rw [if_pos e] at hc; cases hc; rw [e]; exact hb d rfl hd
 ·rw [if_neg e] at hc; exact h c d hc hd
theorem Yfk (r:Rsv V σ F) {x:Nat} {b:Ty} (hx:σ x=none) (hv:V x=true) (hb:∀ c,b=.k c→σ c=none∧c≠x) (ho:occ x (sb V F b)=true) (θ:Nat→Ty):¬ (Sol V σ θ∧θ x=sb V θ b):=by
 rintro ⟨hs,he⟩
 have hne:sb V F b≠.k x:=by
  cases b with
  | k c=>
   obtain ⟨h1,h2⟩:=hb c rfl
   rw [r.var h1]; intro e; cases e; exact h2 rfl
  | u c a=>simp [sb]
  | w c a b=>simp [sb]
 have:=Zyj (θ:=θ) hv ho hne
 rw [Yim r hs _ b (Nat.le_refl _),← he] at this
 omega
structure MGU (V:Nat→Bool) (rk:Nat→Nat) (S:(Nat→Ty)→Prop) (F:Nat→Ty):Prop where
 sol:S F
 gen:∀ θ,S θ→∀ c,V c=true→sb V θ (F c)=θ c
 inc:∀ c d,V c=true→V d=true→F c=.k d→c≠d→rk c < rk d
 out:∀ c,V c=false→F c=.k c
theorem Wlk.var {rk:Nat→Nat} (r:Rsv V σ F) (hi:Inc rk V σ) {n e:Nat} (he:V e=true):∀ {c:Nat},Wlk σ n (.k c) (.k e)→c=e ∨ rk c < rk e:=by
 induction n with
 | zero=>intro c h; cases h; exact .inl rfl
 | succ n ih=>
  intro c h
  cases h with
  | @step _ _ u _ h1 h2=>
   cases h2 with
   | stop _=>exact .inr (hi _ _ h1 he)
   | @step d n' u' _ h3 h4=>
    have:=hi c d h1 (r.dom _ _ h3)
    rcases ih (.step h3 h4) with e | e
    ·subst e; exact .inr this
    ·exact .inr (by omega)
theorem MGU.of_res {rk:Nat→Nat} {S:(Nat→Ty)→Prop} (r:Rsv V σ F) (hi:Inc rk V σ) (hS:∀ θ,Sol V σ θ ↔ S θ):MGU V rk S F:=by
 refine ⟨(hS F).1 r.solF,fun θ h c hv=>r.gen ((hS θ).2 h) hv,fun c d hc hd e hne=>?_,fun c h=>?_⟩
 ·obtain ⟨n,t,hw⟩:=r.wlk c
  have h1:=hw.sbF r
  rw [sb,if_pos hc,e] at h1
  have hend:=hw.end_
  cases t with
  | k x=>
   rw [r.var (hend x rfl)] at h1
   cases h1
   exact (hw.var r hi hd).resolve_left hne
  | u x a=>simp [sb] at h1
  | w x a b=>simp [sb] at h1
 ·cases hs:σ c with
  | none=>exact r.non c hs
  | some t=>have:=r.dom c t hs; rw [h] at this; cases this
theorem MGU.vars {rk:Nat→Nat} {S:(Nat→Ty)→Prop} {F G:Nat→Ty} (f:MGU V rk S F) (g:MGU V rk S G) {v:Nat} (hv:V v=true) (h:F v=.k v):G v=.k v:=by
 have h1:=g.gen F f.sol v hv
 rw [h] at h1
 cases hg:G v with
 | k w=>
  rw [hg] at h1
  by_cases hw:V w=true
  ·rw [sb,if_pos hw] at h1
   by_cases e:v=w
   ·rw [e]
   ·have a:=g.inc v w hv hw hg e
    have b:=f.inc w v hw hv h1 (fun e'=>e e'.symm)
    omega
  ·rw [sb,if_neg hw] at h1; cases h1; exact absurd hv hw
 | u w a=>rw [hg] at h1; simp [sb] at h1
 | w w a b=>rw [hg] at h1; simp [sb] at h1
theorem MGU.unique {rk:Nat→Nat} {S:(Nat→Ty)→Prop} {F G:Nat→Ty} (f:MGU V rk S F) (g:MGU V rk S G):F=G:=by
 funext v
 cases hv:V v with
 | false=>rw [f.out v hv,g.out v hv]
 | true=>
  have h1:=f.gen G g.sol v hv
  have h2:sb V F (F v)=F v:=f.gen F f.sol v hv
  have h3:sb V G (F v)=F v:=by
   conv=>rhs; rw [← Ydi (V:=V) (F v)]
   refine Zok fun c hc ho=>?_
   exact f.vars g hc (Zvj h2 c hc ho)
  rw [← h3,h1]
end
end Go.Sim

set_option linter.unusedSimpArgs false
set_option linter.unusedVariables false
namespace Go.Sim

structure Gr where
 hd:Nat→Nat
 ps:Nat→List Nat
inductive Pth (lk:Nat→Option Nat):Nat→Nat→Nat→Prop
 | refl {n:Nat}:Pth lk 0 n n
 | step {n m e k:Nat}:lk n=some m→Pth lk k m e→Pth lk (k + 1) n e
def Zwi (lk lk':Nat→Option Nat):Prop:=∀ n m,lk n=some m→lk' n=some m
section
variable {lk lk':Nat→Option Nat}
theorem Zwi.refl (lk:Nat→Option Nat):Zwi lk lk:=fun _ _ h=>h
theorem Zwi.trans {a b c:Nat→Option Nat} (h:Zwi a b) (k:Zwi b c):Zwi a c:=fun n m x=>k n m (h n m x)
theorem Zwi.none (x:Zwi lk lk') {n:Nat} (h:lk' n=none):lk n=none:=by
 cases hn:lk n with
 | none=>rfl
 | some m=>rw [x n m hn] at h; cases h
theorem Pth.trans {i j n m e:Nat} (h:Pth lk i n m) (h':Pth lk j m e):Pth lk (i + j) n e:=by
 induction h with
 | refl=>simpa using h'
 | @step n m' e' k h1 _ ih=>have:=Pth.step h1 (ih h'); rw [show k + 1 + j=k + j + 1 by omega]; exact this
theorem Pth.ext (x:Zwi lk lk') {k n e:Nat} (h:Pth lk k n e):Pth lk' k n e:=by
 induction h with
 | refl=>exact .refl
 | step h1 _ ih=>exact .step (x _ _ h1) ih
theorem Pth.two {i j a x y:Nat} (h:Pth lk i a x) (h':Pth lk j a y):(∃ k,Pth lk k x y) ∨ ∃ k,Pth lk k y x:=by
 induction h generalizing j with
 | refl=>exact .inl ⟨_,h'⟩
 | step h1 h2 ih=>
  cases h' with
  | refl=>exact .inr ⟨_,.step h1 h2⟩
  | step h3 h4=>rw [h1] at h3; cases h3; exact ih h4
theorem Pth.at_end {k e x:Nat} (h:Pth lk k e x) (he:lk e=none):x=e:=by
 cases h with
 | refl=>rfl
 | step h1 _=>rw [he] at h1; cases h1
theorem Pth.to_end {i j a x e:Nat} (h:Pth lk i a x) (h':Pth lk j a e) (he:lk e=none):∃ k,Pth lk k x e:=by
 rcases h.two h' with h | ⟨k,h⟩
 ·exact h
 ·have:=h.at_end he; subst this; exact ⟨0,.refl⟩
theorem Pth.end_eq {i j a e e':Nat} (h:Pth lk i a e) (h':Pth lk j a e') (he:lk e=none) (he':lk e'=none):e=e':=by
 obtain ⟨k,hk⟩:=h.to_end h' he'
 exact (hk.at_end he).symm
def Jnd (lk:Nat→Option Nat) (a b:Nat):Prop:=∃ i j e,Pth lk i a e∧Pth lk j b e
theorem Jnd.refl (a:Nat):Jnd lk a a:=⟨0,0,a,.refl,.refl⟩
theorem Jnd.symm {a b:Nat}:Jnd lk a b→Jnd lk b a:=fun ⟨i,j,e,h1,h2⟩=>⟨j,i,e,h2,h1⟩
theorem Jnd.trans {a b c:Nat}:Jnd lk a b→Jnd lk b c→Jnd lk a c:=fun ⟨i,j,e,h1,h2⟩ ⟨i',j',e',h3,h4⟩=>by
 rcases h2.two h3 with ⟨k,h⟩ | ⟨k,h⟩
 ·exact ⟨_,_,e',h1.trans h,h4⟩
 ·exact ⟨_,_,e,h1,h4.trans h⟩
theorem Jnd.ext (x:Zwi lk lk') {a b:Nat}:Jnd lk a b→Jnd lk' a b:=fun ⟨i,j,e,h1,h2⟩=>⟨i,j,e,h1.ext x,h2.ext x⟩
theorem Jnd.of_path {k a e:Nat} (h:Pth lk k a e):Jnd lk a e:=⟨k,0,e,h,.refl⟩
theorem Jnd.end_ {a b k e:Nat} (h:Jnd lk a b) (hp:Pth lk k a e) (he:lk e=none):∃ j,Pth lk j b e:=by
 obtain ⟨i,j,m,h1,h2⟩:=h
 obtain ⟨q,hq⟩:=h1.to_end hp he
 exact ⟨_,h2.trans hq⟩
def lnk (lk:Nat→Option Nat) (a b:Nat):Nat→Option Nat:=fun n=>if n=a then some b else lk n
theorem Zub {a b:Nat} (ha:lk a=none):Zwi lk (lnk lk a b):=fun n m h=>by
 unfold lnk
 rw [if_neg]; exact h
 rintro rfl; rw [ha] at h; cases h
def ub (N:List Nat) (lk:Nat→Option Nat):Nat:=N.countP fun n=>(lk n).isNone
theorem Yep {N:List Nat} (x:Zwi lk lk'):ub N lk'≤ub N lk:=by
 unfold ub
 refine List.countP_mono_left fun n _ h=>?_
 simp only [Option.isNone_iff_eq_none] at h ⊢
 exact x.none h
theorem Yjs {N:List Nat} {a b:Nat} (hN:a∈N) (ha:lk a=none):ub N (lnk lk a b) < ub N lk:=by
 unfold ub
 induction N with
 | nil=>cases hN
 | cons n N ih=>
  have hm:N.countP (fun n=>(lnk lk a b n).isNone)≤N.countP fun n=>(lk n).isNone:=Yep (Zub ha)
  rw [List.countP_cons,List.countP_cons]
  by_cases e:n=a
  ·subst e
   simp only [lnk,if_true,Option.isNone_some,ha,Option.isNone_none,Bool.false_eq_true,if_false]
   unfold lnk at hm
   omega
  ·have:=ih ((List.mem_cons.1 hN).resolve_left fun h=>e h.symm)
   have h2:(lnk lk a b n).isNone=(lk n).isNone:=by simp [lnk,e]
   rw [h2]; omega
end
structure GOk (G:Gr) (N:List Nat) (lk:Nat→Option Nat):Prop where
 par:∀ n∈N,∀ p∈G.ps n,p∈N
 ar:∀ n∈N,arN (G.hd n)=((G.ps n).length:Int)
 lkN:∀ n m,n∈N→lk n=some m→m∈N
 end_ : ∀ n ∈ N, ∃ k e, Pth lk k n e ∧ lk e = none
section
variable {G:Gr} {N:List Nat} {lk lk':Nat→Option Nat}
theorem GOk.path (g:GOk G N lk) {k n e:Nat} (hn:n∈N) (h:Pth lk k n e):e∈N:=by
 induction h with
 | refl=>exact hn
 | step h1 _ ih=>exact ih (g.lkN _ _ hn h1)
theorem GOk.link (g:GOk G N lk) {a b:Nat} (hb:b∈N) (ha0:lk a=none) (hb0:lk b=none) (hne:a≠b):GOk G N (lnk lk a b):=by
 refine ⟨g.par,g.ar,fun n m hn h=>?_,fun n hn=>?_⟩
 ·unfold lnk at h
  by_cases e:n=a
  ·rw [if_pos e] at h; cases h; exact hb
  ·rw [if_neg e] at h; exact g.lkN n m hn h
 ·obtain ⟨k,e,hp,he⟩:=g.end_ n hn
  by_cases ea:e=a
  ·subst ea
   refine ⟨k + 1,b,(hp.ext (Zub ha0)).trans (.step (by simp [lnk]) .refl),?_⟩
   simp only [lnk]; rw [if_neg fun e=>hne e.symm]; exact hb0
  ·exact ⟨k,e,hp.ext (Zub ha0),by simp [lnk,ea,he]⟩
def Str (G:Gr) (N:List Nat) (val:Nat→Ty):Prop:=∀ n∈N,Zam (G.hd n)=false→(val n).hd=G.hd n∧(val n).ps=(G.ps n).map val
def Rsp (N:List Nat) (lk:Nat→Option Nat) (val:Nat→Ty):Prop:=∀ n m,n∈N→lk n=some m→val n=val m
theorem Rsp.path (g:GOk G N lk) {val:Nat→Ty} (r:Rsp N lk val) {k n e:Nat} (hn:n∈N) (h:Pth lk k n e):val n=val e:=by
 induction h with
 | refl=>rfl
 | step h1 _ ih=>rw [r _ _ hn h1]; exact ih (g.lkN _ _ hn h1)
theorem Rsp.link {val:Nat→Ty} (r:Rsp N lk val) {a b:Nat} (h:val a=val b):Rsp N (lnk lk a b) val:=by
 intro n m hn hl
 unfold lnk at hl
 by_cases e:n=a
 ·rw [if_pos e] at hl; cases hl; rw [e]; exact h
 ·rw [if_neg e] at hl; exact r n m hn hl
def Ykb (G:Gr) (lk:Nat→Option Nat) (n m:Nat):Prop:=
 (Zam (G.hd n)=false→G.hd m=G.hd n∧∀ (i p q:Nat),(G.ps n)[i]?=some p→(G.ps m)[i]?=some q→Jnd lk p q)∧(Zam (G.hd n)=true→Zam (G.hd m)=true→G.hd n≤G.hd m)
theorem Ykb.ext (x:Zwi lk lk') {n m:Nat} (h:Ykb G lk n m):Ykb G lk' n m:=⟨fun hv=>⟨(h.1 hv).1,fun i p q h1 h2=>((h.1 hv).2 i p q h1 h2).ext x⟩,h.2⟩
def Cls (G:Gr) (N:List Nat) (lk:Nat→Option Nat):Prop:=∀ n m,n∈N→lk n=some m→Ykb G lk n m
theorem Zrm {c:Nat} (h:Zam c=true):arN c=0:=by unfold arN Zdm; rw [h]; simp
theorem GOk.var_ps (g:GOk G N lk) {n:Nat} (hn:n∈N) (hv:Zam (G.hd n)=true):G.ps n=[]:=by
 have:=g.ar n hn; rw [Zrm hv] at this; exact List.eq_nil_of_length_eq_zero (by omega)
theorem Ymk (c:Nat):arN c≤2:=by
 unfold arN; split <;> try split
 all_goals try split
 all_goals omega
theorem GOk.ps_le (g:GOk G N lk) {n:Nat} (hn:n∈N):(G.ps n).length≤2:=by have:=g.ar n hn; have:=Ymk (G.hd n); omega
inductive VT (G:Gr) (lk:Nat→Option Nat) (nu:Nat→Nat):Nat→Ty→Prop
 | var {n e k:Nat}:Pth lk k n e→lk e=none→Zam (G.hd e)=true→VT G lk nu n (.k (nu e))
 | cst {n e k:Nat}:Pth lk k n e→lk e=none→Zam (G.hd e)=false→G.ps e=[]→VT G lk nu n (.k (G.hd e))
 | one {n e k p:Nat} {s:Ty}:Pth lk k n e→lk e=none→Zam (G.hd e)=false→G.ps e=[p]→VT G lk nu p s→VT G lk nu n (.u (G.hd e) s)
 | two {n e k p q:Nat} {s t:Ty}:Pth lk k n e→lk e=none→Zam (G.hd e)=false→G.ps e=[p,q]→VT G lk nu p s→VT G lk nu q t→VT G lk nu n (.w (G.hd e) s t)
variable {nu:Nat→Nat}
theorem VT.of_path {k n m:Nat} {t:Ty} (h:Pth lk k n m) (v:VT G lk nu m t):VT G lk nu n t:=by
 cases v with
 | var h1 h2 h3=>exact .var (h.trans h1) h2 h3
 | cst h1 h2 h3 h4=>exact .cst (h.trans h1) h2 h3 h4
 | one h1 h2 h3 h4 h5=>exact .one (h.trans h1) h2 h3 h4 h5
 | two h1 h2 h3 h4 h5 h6=>exact .two (h.trans h1) h2 h3 h4 h5 h6
theorem VT.to {k n m:Nat} {t:Ty} (h:Pth lk k n m) (v:VT G lk nu n t):VT G lk nu m t:=by
 cases v with
 | var h1 h2 h3=>obtain ⟨_,h⟩:=h.to_end h1 h2; exact .var h h2 h3
 | cst h1 h2 h3 h4=>obtain ⟨_,h⟩:=h.to_end h1 h2; exact .cst h h2 h3 h4
 | one h1 h2 h3 h4 h5=>obtain ⟨_,h⟩:=h.to_end h1 h2; exact .one h h2 h3 h4 h5
 | two h1 h2 h3 h4 h5 h6=>obtain ⟨_,h⟩:=h.to_end h1 h2; exact .two h h2 h3 h4 h5 h6
theorem VT.jnd {a b:Nat} {t:Ty} (h:Jnd lk a b) (v:VT G lk nu a t):VT G lk nu b t:=by
 obtain ⟨i,j,e,h1,h2⟩:=h
 exact (v.to h1).of_path h2
theorem VT.det {n:Nat} {t t':Ty} (v:VT G lk nu n t) (v':VT G lk nu n t'):t=t':=by
 induction v generalizing t' with
 | var h1 h2 h3=>
  cases v' with
  | var k1 k2 k3=>rw [h1.end_eq k1 h2 k2]
  | cst k1 k2 k3 k4=>have:=h1.end_eq k1 h2 k2; subst this; rw [h3] at k3; cases k3
  | one k1 k2 k3 k4=>have:=h1.end_eq k1 h2 k2; subst this; rw [h3] at k3; cases k3
  | two k1 k2 k3 k4=>have:=h1.end_eq k1 h2 k2; subst this; rw [h3] at k3; cases k3
 | cst h1 h2 h3 h4=>
  cases v' with
  | var k1 k2 k3=>have:=h1.end_eq k1 h2 k2; subst this; rw [h3] at k3; cases k3
  | cst k1 k2 k3 k4=>rw [h1.end_eq k1 h2 k2]
  | one k1 k2 k3 k4=>have:=h1.end_eq k1 h2 k2; subst this; rw [h4] at k4; cases k4
  | two k1 k2 k3 k4=>have:=h1.end_eq k1 h2 k2; subst this; rw [h4] at k4; cases k4
 | one h1 h2 h3 h4 h5 ih=>
  cases v' with
  | var k1 k2 k3=>have:=h1.end_eq k1 h2 k2; subst this; rw [h3] at k3; cases k3
  | cst k1 k2 k3 k4=>have:=h1.end_eq k1 h2 k2; subst this; rw [h4] at k4; cases k4
  | one k1 k2 k3 k4 k5=>have:=h1.end_eq k1 h2 k2; subst this; rw [h4] at k4; cases k4; rw [ih k5]
  | two k1 k2 k3 k4=>have:=h1.end_eq k1 h2 k2; subst this; rw [h4] at k4; cases k4
 | two h1 h2 h3 h4 h5 h6 ih1 ih2=>
  cases v' with
  | var k1 k2 k3=>have:=h1.end_eq k1 h2 k2; subst this; rw [h3] at k3; cases k3
  | cst k1 k2 k3 k4=>have:=h1.end_eq k1 h2 k2; subst this; rw [h4] at k4; cases k4
  | one k1 k2 k3 k4 k5=>have:=h1.end_eq k1 h2 k2; subst this; rw [h4] at k4; cases k4
  | two k1 k2 k3 k4 k5 k6=>have:=h1.end_eq k1 h2 k2; subst this; rw [h4] at k4; cases k4; rw [ih1 k5,ih2 k6]
theorem VT.make (g:GOk G N lk) {e:Nat} (hN:e∈N) (he:lk e=none) (h:∀ p∈G.ps e,∃ t,VT G lk nu p t):∃ t,VT G lk nu e t:=by
 cases hv:Zam (G.hd e) with
 | true=>exact ⟨_,.var .refl he hv⟩
 | false=>
  have hl:=g.ps_le hN
  match hp:G.ps e,hl with
  | [],_=>exact ⟨_,.cst .refl he hv hp⟩
  | [p],_=>
   obtain ⟨s,hs⟩:=h p (by rw [hp]; simp)
   exact ⟨_,.one .refl he hv hp hs⟩
  | [p,q],_=>
   obtain ⟨s,hs⟩:=h p (by rw [hp]; simp)
   obtain ⟨t,ht⟩:=h q (by rw [hp]; simp)
   exact ⟨_,.two .refl he hv hp hs ht⟩
  | _ :: _ :: _ :: _,hl=>simp at hl
theorem VT.parts (g:GOk G N lk) (c:Cls G N lk) {n k e:Nat} (hp:Pth lk k n e) (he:lk e=none) (hn:n∈N) (hv:Zam (G.hd n)=false) {t:Ty} (v:VT G lk nu n t) :
  t.hd=G.hd n∧t.ps.length=(G.ps n).length∧∀ (i p:Nat) (s:Ty),(G.ps n)[i]?=some p→t.ps[i]?=some s→VT G lk nu p s:=by
 induction hp with
 | @refl n=>
  cases v with
  | var k1 k2 k3=>have:=k1.at_end he; subst this; rw [hv] at k3; cases k3
  | cst k1 k2 k3 k4=>have:=k1.at_end he; subst this; exact ⟨rfl,by rw [k4]; rfl,fun i p s h _=>by rw [k4] at h; simp at h⟩
  | one k1 k2 k3 k4 k5=>
   have:=k1.at_end he; subst this
   refine ⟨rfl,by rw [k4]; rfl,fun i p s h h'=>?_⟩
   rw [k4] at h
   match i with
   | 0=>simp [Ty.ps] at h h'; subst h; subst h'; exact k5
   | i + 1=>simp at h
  | two k1 k2 k3 k4 k5 k6=>
   have:=k1.at_end he; subst this
   refine ⟨rfl,by rw [k4]; rfl,fun i p s h h'=>?_⟩
   rw [k4] at h
   match i with
   | 0=>simp [Ty.ps] at h h'; subst h; subst h'; exact k5
   | 1=>simp [Ty.ps] at h h'; subst h; subst h'; exact k6
   | i + 2=>simp at h
 | @step n m e k h1 h2 ih=>
  obtain ⟨h3,h4⟩:=(c n m hn h1).1 hv
  have hm:=g.lkN _ _ hn h1
  obtain ⟨i1,i2,i3⟩:=ih he hm (by rw [h3]; exact hv) (v.to (.step h1 .refl))
  have hl:(G.ps m).length=(G.ps n).length:=by have a:=g.ar n hn; have b:=g.ar m hm; rw [h3] at b; omega
  refine ⟨i1.trans h3,i2.trans hl,fun i p s h h'=>?_⟩
  have hi:i < (G.ps m).length:=by have:=(List.getElem?_eq_some_iff.1 h).1; omega
  have hq:=List.getElem?_eq_getElem hi
  exact (i3 i _ s hq h').jnd (h4 i p _ h hq).symm
inductive Raw (G:Gr) (nu:Nat→Nat):Nat→Ty→Prop
 | var {n:Nat}:Zam (G.hd n)=true→Raw G nu n (.k (nu n))
 | cst {n:Nat}:Zam (G.hd n)=false→G.ps n=[]→Raw G nu n (.k (G.hd n))
 | one {n p:Nat} {s:Ty}:Zam (G.hd n)=false→G.ps n=[p]→Raw G nu p s→Raw G nu n (.u (G.hd n) s)
 | two {n p q:Nat} {s t:Ty}:Zam (G.hd n)=false→G.ps n=[p,q]→Raw G nu p s→Raw G nu q t→Raw G nu n (.w (G.hd n) s t)
theorem Raw.det {n:Nat} {t t':Ty} (r:Raw G nu n t) (r':Raw G nu n t'):t=t':=by
 induction r generalizing t' with
 | var h=>cases r' with
  | var k=>rfl
  | cst k _=>rw [h] at k; cases k
  | one k _ _=>rw [h] at k; cases k
  | two k _ _ _=>rw [h] at k; cases k
 | cst h h1=>cases r' with
  | var k=>rw [h] at k; cases k
  | cst k _=>rfl
  | one k k1 _=>rw [h1] at k1; cases k1
  | two k k1 _ _=>rw [h1] at k1; cases k1
 | one h h1 _ ih=>cases r' with
  | var k=>rw [h] at k; cases k
  | cst k k1=>rw [h1] at k1; cases k1
  | one k k1 k2=>rw [h1] at k1; cases k1; rw [ih k2]
  | two k k1 _ _=>rw [h1] at k1; cases k1
 | two h h1 _ _ ih1 ih2=>cases r' with
  | var k=>rw [h] at k; cases k
  | cst k k1=>rw [h1] at k1; cases k1
  | one k k1 k2=>rw [h1] at k1; cases k1
  | two k k1 k2 k3=>rw [h1] at k1; cases k1; rw [ih1 k2,ih2 k3]
inductive Sub (G:Gr):Nat→Nat→Prop
 | refl {n:Nat}:Sub G n n
 | part {n p x:Nat}:p∈G.ps n→Sub G p x→Sub G n x
theorem VT.sub (g:GOk G N lk) (c:Cls G N lk) {n x:Nat} (h:Sub G n x):n∈N→∀ {t:Ty},VT G lk nu n t→∃ s,VT G lk nu x s:=by
 induction h with
 | refl=>exact fun _ t v=>⟨t,v⟩
 | @part n p x hp _ ih=>
  intro hn t v
  have hv:Zam (G.hd n)=false:=by
   cases hv:Zam (G.hd n) with
   | false=>rfl
   | true=>rw [g.var_ps hn hv] at hp; cases hp
  obtain ⟨k,e,h1,h2⟩:=g.end_ n hn
  obtain ⟨_,h4,h5⟩:=VT.parts g c h1 h2 hn hv v
  obtain ⟨i,hi⟩:=List.getElem?_of_mem hp
  have hl:=(List.getElem?_eq_some_iff.1 hi).1
  exact ih (g.par n hn p hp) (h5 i p _ hi (List.getElem?_eq_getElem (by omega)))
structure Yca (G:Gr) (N:List Nat) (nu:Nat→Nat) (V:Nat→Bool):Prop where
 var:∀ n∈N,Zam (G.hd n)=true→V (nu n)=true
 cst:∀ n∈N,Zam (G.hd n)=false→V (G.hd n)=false
 inj:∀ n∈N,∀ m∈N,Zam (G.hd n)=true→Zam (G.hd m)=true→nu n=nu m→n=m
variable {V:Nat→Bool}
theorem Ymc {t:Ty} (h:t.ps.length=0):t=.k t.hd:=by cases t <;> simp [Ty.ps,Ty.hd] at *
theorem Ymt {t:Ty} (h:t.ps.length=1):∃ s,t.ps=[s]∧t=.u t.hd s:=by cases t <;> simp [Ty.ps,Ty.hd] at *
theorem Ymy {t:Ty} (h:t.ps.length=2):∃ s s',t.ps=[s,s']∧t=.w t.hd s s':=by cases t <;> simp [Ty.ps,Ty.hd] at *
theorem Raw.vt (g:GOk G N lk) (c:Cls G N lk) (nv:Yca G N nu V) {F:Nat→Ty} (hF:∀ x∈N,Zam (G.hd x)=true→∀ s,VT G lk nu x s→F (nu x)=s) {n:Nat} {t:Ty} (r:Raw G nu n t) :
  n∈N→∀ {s:Ty},VT G lk nu n s→s=sb V F t:=by
 induction r with
 | @var n h=>
  intro hn s v
  rw [sb,if_pos (nv.var n hn h),hF n hn h s v]
 | @cst n h h1=>
  intro hn s v
  obtain ⟨k,e,p1,p2⟩:=g.end_ n hn
  obtain ⟨a1,a2,_⟩:=VT.parts g c p1 p2 hn h v
  rw [h1] at a2
  rw [sb,if_neg (by rw [nv.cst n hn h]; simp),Ymc a2,a1]
 | @one n p s0 h h1 _ ih=>
  intro hn s v
  obtain ⟨k,e,p1,p2⟩:=g.end_ n hn
  obtain ⟨a1,a2,a3⟩:=VT.parts g c p1 p2 hn h v
  rw [h1] at a2 a3
  obtain ⟨s1,e1,e2⟩:=Ymt a2
  have:=ih (g.par n hn p (by rw [h1]; simp)) (a3 0 p s1 rfl (by rw [e1]; rfl))
  rw [e2,a1,sb,this]
 | @two n p q s0 t0 h h1 _ _ ih1 ih2=>
  intro hn s v
  obtain ⟨k,e,p1,p2⟩:=g.end_ n hn
  obtain ⟨a1,a2,a3⟩:=VT.parts g c p1 p2 hn h v
  rw [h1] at a2 a3
  obtain ⟨s1,s2,e1,e2⟩:=Ymy a2
  have i1:=ih1 (g.par n hn p (by rw [h1]; simp)) (a3 0 p s1 rfl (by rw [e1]; rfl))
  have i2:=ih2 (g.par n hn q (by rw [h1]; simp)) (a3 1 q s2 rfl (by rw [e1]; rfl))
  rw [e2,a1,sb,i1,i2]
theorem VT.val (g:GOk G N lk) (nv:Yca G N nu V) {val θ:Nat→Ty} (hs:Str G N val) (hr:Rsp N lk val) (hv:∀ x∈N,Zam (G.hd x)=true→val x=θ (nu x)) {n:Nat} {t:Ty} (v:VT G lk nu n t):n∈N→val n=sb V θ t:=by
 induction v with
 | @var n e k h1 h2 h3=>
  intro hn
  have he:=g.path hn h1
  rw [hr.path g hn h1,hv e he h3,sb,if_pos (nv.var e he h3)]
 | @cst n e k h1 h2 h3 h4=>
  intro hn
  have he:=g.path hn h1
  obtain ⟨a1,a2⟩:=hs e he h3
  rw [h4] at a2
  rw [hr.path g hn h1,sb,if_neg (by rw [nv.cst e he h3]; simp),Ymc (t:=val e) (by rw [a2]; rfl),a1]
 | @one n e k p s h1 h2 h3 h4 _ ih=>
  intro hn
  have he:=g.path hn h1
  obtain ⟨a1,a2⟩:=hs e he h3
  rw [h4] at a2
  obtain ⟨s1,e1,e2⟩:=Ymt (t:=val e) (by rw [a2]; rfl)
  rw [a2] at e1
  simp at e1
  rw [hr.path g hn h1,e2,a1,sb,← ih (g.par e he p (by rw [h4]; simp)),e1]
 | @two n e k p q s t h1 h2 h3 h4 _ _ ih1 ih2=>
  intro hn
  have he:=g.path hn h1
  obtain ⟨a1,a2⟩:=hs e he h3
  rw [h4] at a2
  obtain ⟨s1,s2,e1,e2⟩:=Ymy (t:=val e) (by rw [a2]; rfl)
  rw [a2] at e1
  simp at e1
  rw [hr.path g hn h1,e2,a1,sb,← ih1 (g.par e he p (by rw [h4]; simp)),← ih2 (g.par e he q (by rw [h4]; simp)),e1.1,e1.2]
open Classical in
noncomputable def Zyy (G:Gr) (nu:Nat→Nat) (V:Nat→Bool) (θ:Nat→Ty) (n:Nat):Ty:=if h:∃ t,Raw G nu n t then sb V θ h.choose else .k 0
theorem Zfd {θ:Nat→Ty} {n:Nat} {t:Ty} (r:Raw G nu n t):Zyy G nu V θ n=sb V θ t:=by
 have h:∃ t,Raw G nu n t:=⟨t,r⟩
 unfold Zyy
 rw [dif_pos h,h.choose_spec.det r]
theorem Zoy (nv:Yca G N nu V) (hr:∀ n∈N,∃ t,Raw G nu n t) (θ:Nat→Ty):Str G N (Zyy G nu V θ):=by
 intro n hn hv
 obtain ⟨t,r⟩:=hr n hn
 rw [Zfd r]
 cases r with
 | var h=>rw [hv] at h; cases h
 | cst h h1=>rw [sb,if_neg (by rw [nv.cst n hn h]; simp),h1]; exact ⟨rfl,rfl⟩
 | one h h1 h2=>rw [h1]; exact ⟨rfl,by simp [sb,Ty.ps,Zfd h2]⟩
 | two h h1 h2 h3=>rw [h1]; exact ⟨rfl,by simp [sb,Ty.ps,Zfd h2,Zfd h3]⟩
theorem Zta (nv:Yca G N nu V) (θ:Nat→Ty):∀ x∈N,Zam (G.hd x)=true→Zyy G nu V θ x=θ (nu x):=by
 intro x hx h
 rw [Zfd (.var h),sb,if_pos (nv.var x hx h)]
open Classical in
noncomputable def grF (G:Gr) (N:List Nat) (lk:Nat→Option Nat) (nu:Nat→Nat) (c:Nat):Ty:=
 if h:∃ s,∃ x∈N,Zam (G.hd x)=true∧nu x=c∧VT G lk nu x s then h.choose else .k c
theorem Yed (nv:Yca G N nu V) {x:Nat} (hx:x∈N) (hv:Zam (G.hd x)=true) {s:Ty} (v:VT G lk nu x s):grF G N lk nu (nu x)=s:=by
 have h:∃ s,∃ y∈N,Zam (G.hd y)=true∧nu y=nu x∧VT G lk nu y s:=⟨s,x,hx,hv,rfl,v⟩
 unfold grF
 rw [dif_pos h]
 obtain ⟨y,hy,hyv,he,v'⟩:=h.choose_spec
 have:=nv.inj y hy x hx hyv hv he
 subst this
 exact v'.det v
theorem Yjg (g:GOk G N lk) (c:Cls G N lk) (nv:Yca G N nu V) {a b:Nat} (ha:a∈N) (hb:b∈N) (hj:Jnd lk a b) {ta tb T:Ty} (ra:Raw G nu a ta) (rb:Raw G nu b tb) (v:VT G lk nu a T) :
  sb V (grF G N lk nu) ta=T∧sb V (grF G N lk nu) tb=T:=
 ⟨(ra.vt g c nv (fun x hx h s hs=>Yed nv hx h hs) ha v).symm,(rb.vt g c nv (fun x hx h s hs=>Yed nv hx h hs) hb (v.jnd hj)).symm⟩
theorem Yji (nv:Yca G N nu V) {c:Nat} (h:V c=false):grF G N lk nu c=.k c:=by
 unfold grF
 rw [dif_neg]
 rintro ⟨s,x,hx,hv,rfl,_⟩
 rw [nv.var x hx hv] at h; cases h
theorem Yio (g:GOk G N lk) (nv:Yca G N nu V) (hr:∀ n∈N,∃ t,Raw G nu n t) {a b:Nat} {ta tb:Ty} (ra:Raw G nu a ta) (rb:Raw G nu b tb)
  (hsnd:∀ val,Str G N val→val a=val b→Rsp N lk val) {θ:Nat→Ty} (h:sb V θ ta=sb V θ tb) {c:Nat} (hc:V c=true):sb V θ (grF G N lk nu c)=θ c:=by
 have hs:=Zoy nv hr θ
 have hrs:=hsnd _ hs (by rw [Zfd ra,Zfd rb,h])
 unfold grF
 split
 ·rename_i hx
  obtain ⟨x,hxN,hv,he,v⟩:=hx.choose_spec
  rw [← v.val g nv hs hrs (Zta nv θ) hxN,Zta nv θ x hxN hv,he]
 ·rw [sb,if_pos hc]
theorem Yjn (g:GOk G N lk) (c:Cls G N lk) (nv:Yca G N nu V) {rk:Nat→Nat} (hrk:∀ x∈N,∀ e∈N,Zam (G.hd x)=true→Zam (G.hd e)=true→G.hd x≤G.hd e→nu x≠nu e→rk (nu x) < rk (nu e)) {v d:Nat} (hv:V v=true) (hd:V d=true)
  (h:grF G N lk nu v=.k d) (hne:v≠d):rk v < rk d:=by
 have chain:∀ {k x e:Nat},Pth lk k x e→x∈N→Zam (G.hd e)=true→Zam (G.hd x)=true→G.hd x≤G.hd e:=by
  intro k x e hp
  induction hp with
  | refl=>intros; exact Nat.le_refl _
  | @step n m e k h1 h2 ih=>
   intro hx he hxv
   have hm:=g.lkN _ _ hx h1
   have hmv:Zam (G.hd m)=true:=by
    cases hmv:Zam (G.hd m) with
    | true=>rfl
    | false=>
     have stay:∀ {k m e:Nat},Pth lk k m e→m∈N→Zam (G.hd m)=false→Zam (G.hd e)=false:=by
      intro k m e hp
      induction hp with
      | refl=>exact fun _ h=>h
      | step h1 _ ih=>intro hm h; exact ih (g.lkN _ _ hm h1) (by rw [((c _ _ hm h1).1 h).1]; exact h)
     rw [stay h2 hm hmv] at he; cases he
   have a:=(c _ _ hx h1).2 hxv hmv
   have b:=ih hm he hmv
   omega
 unfold grF at h
 split at h
 ·rename_i hx
  obtain ⟨x,hxN,hxv,he,w⟩:=hx.choose_spec
  rw [h] at w
  generalize hz:Ty.k d=z at w
  cases w with
  | @var _ e _ h1 h2 h3=>
   cases hz
   subst he
   exact hrk x hxN e (g.path hxN h1) hxv h3 (chain h1 hxN h3 hxv) hne
  | @cst _ e _ h1 h2 h3 h4=>cases hz; rw [nv.cst e (g.path hxN h1) h3] at hd; cases hd
  | one=>cases hz
  | two=>cases hz
 ·cases h; exact absurd rfl hne
theorem Yln (g:GOk G N lk) {val:Nat→Ty} (hs:Str G N val) (hr:Rsp N lk val) {e p e' k:Nat} (he:e∈N) (hp:p∈G.ps e) (h:Pth lk k p e'):(val e').size < (val e).size:=by
 have hv:Zam (G.hd e)=false:=by
  cases hv:Zam (G.hd e) with
  | false=>rfl
  | true=>rw [g.var_ps he hv] at hp; cases hp
 obtain ⟨_,a2⟩:=hs e he hv
 rw [← hr.path g (g.par e he p hp) h]
 have hm:val p∈(val e).ps:=by rw [a2]; exact List.mem_map_of_mem hp
 generalize val p=s at hm
 generalize val e=t at hm
 cases t with
 | k c=>simp [Ty.ps] at hm
 | u c a=>simp [Ty.ps] at hm; subst hm; simp [Ty.size]
 | w c a b=>simp [Ty.ps] at hm; rcases hm with rfl | rfl <;> simp [Ty.size] <;> omega
end
end Go.Sim

set_option linter.unusedSimpArgs false
set_option linter.unusedVariables false
namespace Go.Sim

def Zgi:Ty→List Nat
 | .k c=>if Zam c then [c] else []
 | .u c a=>Zgi a
 | .w c a b=>Zgi a ++ Zgi b
theorem Yik {a t:Ty} (ha:a.ok=true) (ht:t.ok=true) (h:a.hd=t.hd) (hp:a.ps=t.ps):a=t:=by
 cases a <;> cases t <;> simp_all [Ty.hd,Ty.ps]
theorem Zjy {f g:Nat→Option Ty}:∀ {a:Ty},(∀ v∈Zgi a,f v=g v)→(∀ v,Zam v=false→f v=none∧g v=none)→subst f a=subst g a
 | .k c,h,h0=>by
  simp only [subst]
  by_cases hv:Zam c=true
  ·rw [h c (by simp [Zgi,hv])]
  ·obtain ⟨h1,h2⟩:=h0 c (by simpa using hv); rw [h1,h2]
 | .u c a,h,h0=>by simp only [subst]; rw [Zjy (a:=a) h h0]
 | .w c a b,h,h0=>by
  simp only [subst]
  rw [Zjy (a:=a) (fun v hv=>h v (by simp [Zgi,hv])) h0,Zjy (a:=b) (fun v hv=>h v (by simp [Zgi,hv])) h0]
structure Ymz (m m':Bd) (a t:Ty):Prop where
 keep:∀ v u,Zcl m v=some u→Zcl m' v=some u
 sub:subst (Zcl m') a=t
 vars:∀ v,(Zcl m' v).isSome=true ↔ ((Zcl m v).isSome=true ∨ v∈Zgi a)
theorem Ybb {m m':Bd} (hk:∀ v u,Zcl m v=some u→Zcl m' v=some u) (hv:∀ v,Zam v=false→Zcl m' v=none):∀ {a:Ty},(∀ v∈Zgi a,(Zcl m v).isSome=true)→subst (Zcl m') a=subst (Zcl m) a:=by
 intro a h
 refine Zjy (fun v hvv=>?_) (fun v hvv=>⟨hv v hvv,?_⟩)
 ·obtain ⟨u,hu⟩:=Option.isSome_iff_exists.1 (h v hvv)
  rw [hu,hk v u hu]
 ·cases hb:Zcl m v with
  | none=>rfl
  | some u=>have:=hk v u hb; rw [hv v hvv] at this; cases this
theorem BOk.novar {n:Nat} {m:Bd} (b:BOk n m):∀ v,Zam v=false→Zcl m v=none:=by
 intro v hv
 cases h:Zcl m v with
 | none=>rfl
 | some t=>have:=(b.var _ (Zib h)).1; simp [hv] at this
theorem Zmc {n:Nat}:∀ {a t:Ty} {m m':Bd},a.ok=true→t.ok=true→t.txt.length≤n→BOk n m→matchT m a t=some m'→Ymz m m' a t
 | .k c,t,m,m',ha,ht,hn,b,h=>by
  simp only [matchT] at h
  split at h
  ·rename_i hv
   unfold Znj at h
   split at h
   ·rename_i u hu
    split at h
    ·rename_i he
     cases h; subst he
     refine ⟨fun v u h=>h,by simp [subst,hu],fun v=>?_⟩
     simp only [Zgi,hv,if_true,List.mem_singleton]
     constructor
     ·exact .inl
     ·rintro (h | rfl)
      ·exact h
      ·rw [hu]; rfl
    ·cases h
   ·rename_i hu
    cases h
    refine ⟨fun v u h=>by rw [Ziy,h],by simp [subst,Ziy,hu],fun v=>?_⟩
    simp only [Ziy,Zgi,hv,if_true,List.mem_singleton]
    cases hb:Zcl m v with
    | some u=>simp
    | none=>
     by_cases e:c=v
     ·subst e; simp
     ·have:¬ v=c:=fun e'=>e e'.symm
      simp [e,this]
  ·rename_i hv
   split at h
   ·rename_i he
    cases h
    have hc:Zcl m c=none:=b.novar c (by simpa using hv)
    refine ⟨fun v u h=>h,?_,fun v=>by simp [Zgi,hv]⟩
    simp only [subst,hc,Option.getD_none]
    have hl:=Zzn ha ht (by simpa [Ty.hd] using he)
    refine Yik ha ht (by simpa [Ty.hd] using he) ?_
    simp only [Ty.ps,List.length_nil] at hl ⊢
    exact (List.eq_nil_of_length_eq_zero hl.symm).symm
   ·cases h
 | .u c a,t,m,m',ha,ht,hn,b,h=>by
  have ha':=ha
  simp only [Ty.ok,Bool.and_eq_true] at ha
  simp only [matchT] at h
  split at h
  ·rename_i he
   split at h
   ·rename_i x hx
    have hm:x∈t.ps:=by rw [hx]; simp
    have o:=Zmc ha.2 (Ty.ok_ps ht x hm) (Nat.le_trans (Zjd hm) hn) b h
    refine ⟨o.keep,?_,o.vars⟩
    simp only [subst,o.sub]
    cases t <;> simp_all [Ty.hd,Ty.ps]
   ·cases h
  ·cases h
 | .w c a a2,t,m,m',ha,ht,hn,b,h=>by
  simp only [Ty.ok,Bool.and_eq_true] at ha
  simp only [matchT] at h
  split at h
  ·rename_i he
   split at h
   ·rename_i x y hx
    have hm:x∈t.ps:=by rw [hx]; simp
    have hm2:y∈t.ps:=by rw [hx]; simp
    split at h
    ·rename_i m1 h1
     have b1:=BOk.matchT ha.1.2 (Ty.ok_ps ht x hm) (Nat.le_trans (Zjd hm) hn) b h1
     have b2:=BOk.matchT ha.2 (Ty.ok_ps ht y hm2) (Nat.le_trans (Zjd hm2) hn) b1 h
     have o1:=Zmc ha.1.2 (Ty.ok_ps ht x hm) (Nat.le_trans (Zjd hm) hn) b h1
     have o2:=Zmc ha.2 (Ty.ok_ps ht y hm2) (Nat.le_trans (Zjd hm2) hn) b1 h
     refine ⟨fun v u hv=>o2.keep v u (o1.keep v u hv),?_,fun v=>?_⟩
     ·have hs:subst (Zcl m') a=x:=by
       rw [Ybb o2.keep b2.novar (fun v hv=>(o1.vars v).2 (.inr hv)),o1.sub]
      simp only [subst,hs,o2.sub]
      cases t <;> simp_all [Ty.hd,Ty.ps]
     ·rw [o2.vars,o1.vars]; simp [Zgi,or_assoc]
    ·cases h
   ·cases h
  ·cases h
theorem Yhk {m:Bd} (v:Nat):(bdL m).find? (fun p=>decide (p.1=[v]))=if v∈Zcf then (Zcl m v).map (fun t=>([v],t.txt)) else none:=by
 unfold bdL
 have hnd:=Zfc
 revert hnd
 induction Zcf with
 | nil=>intro _; rfl
 | cons w l ih=>
  intro hnd
  rw [List.nodup_cons] at hnd
  simp only [List.filterMap_cons,List.mem_cons]
  by_cases e:v=w
  ·subst e
   simp only [true_or,if_true]
   cases hb:Zcl m v with
   | none=>
    simp only [Option.map_none]
    rw [ih hnd.2,if_neg hnd.1]
   | some t=>simp
  ·simp only [e,false_or]
   cases hb:Zcl m w with
   | none=>simp only [Option.map_none]; exact ih hnd.2
   | some t=>
    have:¬ w=v:=fun e'=>e e'.symm
    simp only [Option.map_some,List.find?_cons,List.cons.injEq,this,and_true,decide_false]
    exact ih hnd.2
theorem Zvh {m:Bd} (b:BOk 60 m) (v:Nat):Zkc (bdL m) v=Zcl m v:=by
 unfold Zkc
 rw [Yhk]
 by_cases hv:v∈Zcf
 ·rw [if_pos hv]
  cases hb:Zcl m v with
  | none=>rfl
  | some t=>
   have:=b.var _ (Zib hb)
   exact Ycz this.2.1 this.2.2
 ·rw [if_neg hv]
  have:Zam v=false:=by cases h:Zam v with | false=>rfl | true=>exact absurd ((Zdv v).2 h) hv
  rw [b.novar v this]
theorem Ycy {a:Ty} (h:a.ok=true) (v:Nat) (hv:Zam v=true):v∈a.txt ↔ v∈Zgi a:=by
 have h40:¬ v=40:=fun e=>by subst e; simp [Zam] at hv
 have h41:¬ v=41:=fun e=>by subst e; simp [Zam] at hv
 have h44:¬ v=44:=fun e=>by subst e; simp [Zam] at hv
 induction a with
 | k c=>
  simp only [Ty.txt,Zgi,List.mem_singleton]
  constructor
  ·rintro rfl; simp [hv]
  ·intro h; split at h
   ·simpa using h
   ·cases h
 | u c a ih=>
  have hc:=Yfm h
  have:¬ v=c:=fun e=>by subst e; simp [hv] at hc
  simp only [Ty.ok,Bool.and_eq_true] at h
  simp only [Ty.txt,Zgi,List.mem_cons,List.mem_append,this,h40,h41,false_or,List.not_mem_nil,or_false]
  exact ih h.2
 | w c a b iha ihb=>
  have hc:=Yeu h
  have:¬ v=c:=fun e=>by subst e; simp [hv] at hc
  simp only [Ty.ok,Bool.and_eq_true] at h
  simp only [Ty.txt,Zgi,List.mem_cons,List.mem_append,this,h40,h41,h44,false_or,List.not_mem_nil,or_false]
  exact or_congr (iha h.1.2) (ihb h.2)
end Go.Sim

set_option linter.unusedSimpArgs false
set_option linter.unusedVariables false
namespace Go.Sim

structure Yhi (f:Nat→Option Ty):Prop where
 nv:∀ v,Zam v=false→f v=none
 ok:∀ v t,f v=some t→t.ok=true
theorem Zqj {f:Nat→Option Ty} (hf:Yhi f):∀ {a:Ty},a.ok=true→(subst f a).ok=true
 | .k c,h=>by
  simp only [subst]
  cases hb:f c with
  | none=>exact h
  | some t=>exact hf.ok c t hb
 | .u c a,h=>by
  simp only [Ty.ok,Bool.and_eq_true] at h
  simp only [subst,Ty.ok,Bool.and_eq_true]; exact ⟨h.1,Zqj hf h.2⟩
 | .w c a b,h=>by
  simp only [Ty.ok,Bool.and_eq_true] at h
  simp only [subst,Ty.ok,Bool.and_eq_true]; exact ⟨⟨h.1.1,Zqj hf h.1.2⟩,Zqj hf h.2⟩
theorem Zke {f:Nat→Option Ty} (hf:Yhi f) (hall:∀ v,Zam v=true→(f v).isSome=true):∀ {a:Ty} {m:Bd},a.ok=true→(∀ v u,Zcl m v=some u→f v=some u)→∃ m',matchT m a (subst f a)=some m'∧∀ v u,Zcl m' v=some u→f v=some u
 | .k c,m,ha,hm=>by
  simp only [matchT,subst]
  by_cases hv:Zam c=true
  ·obtain ⟨t,ht⟩:=Option.isSome_iff_exists.1 (hall c hv)
   rw [if_pos hv,ht,Option.getD_some]
   unfold Znj
   cases hb:Zcl m c with
   | some u=>
    have:=hm c u hb
    rw [ht] at this; cases this
    exact ⟨m,by simp,hm⟩
   | none=>
    refine ⟨_,rfl,fun v u h=>?_⟩
    rw [Ziy] at h
    cases hb2:Zcl m v with
    | some x=>rw [hb2] at h; cases h; exact hm v _ hb2
    | none=>
     rw [hb2] at h
     simp only at h
     split at h
     ·rename_i e; subst e; cases h; exact ht
     ·cases h
  ·have hn:=hf.nv c (by simpa using hv)
   refine ⟨m,?_,hm⟩
   simp [hv,hn,Ty.hd]
 | .u c a,m,ha,hm=>by
  simp only [Ty.ok,Bool.and_eq_true] at ha
  simp only [matchT,subst,Ty.hd,Ty.ps,if_true]
  exact Zke hf hall ha.2 hm
 | .w c a b,m,ha,hm=>by
  simp only [Ty.ok,Bool.and_eq_true] at ha
  simp only [matchT,subst,Ty.hd,Ty.ps,if_true]
  obtain ⟨m1,h1,hm1⟩:=Zke hf hall ha.1.2 hm
  rw [h1]
  exact Zke hf hall ha.2 hm1
def Yag (f:Nat→Option Ty) (v:Nat):Option Ty:=if Zam v then some ((f v).getD (.k v)) else none
theorem Yga {f:Nat→Option Ty} (hf:∀ v t,f v=some t→t.ok=true):Yhi (Yag f):=by
 refine ⟨fun v hv=>by simp [Yag,hv],fun v t h=>?_⟩
 unfold Yag at h
 split at h
 ·rename_i hv
  cases h
  cases hb:f v with
  | none=>simp only [Option.getD_none,Ty.ok,Zdm,hv,Bool.or_true]
  | some u=>exact hf v u hb
 ·cases h
theorem Zkp {f:Nat→Option Ty} (h0:∀ v,Zam v=false→f v=none):∀ (a:Ty),subst (Yag f) a=subst f a
 | .k c=>by
  simp only [subst,Yag]
  by_cases hv:Zam c=true
  ·rw [if_pos hv]; rfl
  ·rw [if_neg hv,h0 c (by simpa using hv)]
 | .u c a=>by simp only [subst,Zkp h0 a]
 | .w c a b=>by simp only [subst,Zkp h0 a,Zkp h0 b]
theorem Yeb {p s:List Nat} {a t:Ty} (ha:Zeh p=some a) (ht:Zeh s=some t):Zsv p s=true ↔ ∃ f,Yhi f∧subst f a=t:=by
 obtain ⟨h1,h2,h3⟩:=Zbw.1 ha
 obtain ⟨h4,h5,h6⟩:=Zbw.1 ht
 have hms:Zlb p s=matchT [] a t:=by unfold Zlb; rw [ha,ht]
 unfold Zsv
 rw [hms]
 constructor
 ·intro h
  obtain ⟨m,hm⟩:=Option.isSome_iff_exists.1 h
  have b:=BOk.matchT h1 h4 (by rw [← h5]; exact h6) BOk.nil hm
  have o:=Zmc h1 h4 (by rw [← h5]; exact h6) BOk.nil hm
  exact ⟨Zcl m,⟨b.novar,fun v t h=>(b.var _ (Zib h)).2.1⟩,o.sub⟩
 ·rintro ⟨f,hf,rfl⟩
  obtain ⟨m,hm,_⟩:=Zke (Yga hf.ok) (fun v hv=>by simp [Yag,hv]) h1 (m:=[]) (fun v u h=>by simp [Zcl] at h)
  rw [Zkp hf.nv] at hm
  rw [hm]; rfl
noncomputable def after (f g:Nat→Option Ty) (v:Nat):Option Ty:=if Zam v then some (subst g ((f v).getD (.k v))) else none
end Go.Sim

set_option linter.unusedSimpArgs false
set_option linter.unusedVariables false
namespace Go.Sim

end Go.Sim

set_option linter.unusedSimpArgs false
set_option linter.unusedVariables false
namespace Go.Sim
end Go.Sim

set_option linter.unusedSimpArgs false
set_option linter.unusedVariables false
namespace Go.Sim

def Yeg (a b:Ty) (F:Nat→Ty):Prop:=MGU Zam (fun c=>c) (fun θ=>sb Zam θ a=sb Zam θ b) F∧∀ v,Zam v=true→(F v).ok=true
open Classical in
noncomputable def Zpv (a b:Ty):Option (Nat→Ty):=if h:∃ F,Yeg a b F then some h.choose else none
theorem Zml {a b:Ty} {F:Nat→Ty} (h:Yeg a b F):Zpv a b=some F:=by
 have hx:∃ F,Yeg a b F:=⟨F,h⟩
 unfold Zpv
 rw [dif_pos hx,hx.choose_spec.1.unique h.1]
theorem Zts {a b:Ty} (h:¬ ∃ θ,sb Zam θ a=sb Zam θ b):Zpv a b=none:=by
 unfold Zpv
 rw [dif_neg]
 rintro ⟨F,hF⟩
 exact h ⟨F,hF.1.sol⟩
theorem Zsf {a b:Ty} {F:Nat→Ty} (h:Zpv a b=some F):Yeg a b F:=by
 unfold Zpv at h
 split at h
 ·rename_i hx; cases h; exact hx.choose_spec
 ·cases h
theorem Yeg.symm {a b:Ty} {F:Nat→Ty} (h:Yeg a b F):Yeg b a F:=⟨⟨h.1.sol.symm,fun θ hs=>h.1.gen θ hs.symm,h.1.inc,h.1.out⟩,h.2⟩
theorem Yas (a b:Ty):Zpv a b=Zpv b a:=by
 cases h:Zpv a b with
 | some F=>exact (Zml (Zsf h).symm).symm
 | none=>
  cases h':Zpv b a with
  | none=>rfl
  | some F=>rw [Zml (Zsf h').symm] at h; cases h
def Zjh (F:Nat→Ty):Bd:=(Zcf.filter fun v=>decide (F v≠.k v)).map fun v=>(v,F v)
def Znn (F:Nat→Ty):Bool:=Zcf.all fun v=>decide (F v=.k v) || decide ((F v).txt.length≤60)
noncomputable def Zgp (s t:List Nat):Option (List Nd):=match Zeh s,Zeh t with | some a,some b=>(match Zpv a b with | some F=>if Znn F then some (bdL (Zjh F)) else none | none=>none) | _,_=>none
theorem Yaf (s t:List Nat):Zgp s t=Zgp t s:=by
 unfold Zgp
 cases Zeh s <;> cases Zeh t <;> simp only
 rw [Yas]
theorem Zjl (F:Nat→Ty) (v:Nat):Zcl (Zjh F) v=if Zam v=true∧F v≠.k v then some (F v) else none:=by
 have hn:(Zcf.filter fun v=>decide (F v≠.k v)).Nodup:=Zfc.filter _
 have hm:v∈(Zcf.filter fun v=>decide (F v≠.k v)) ↔ Zam v=true∧F v≠.k v:=by rw [List.mem_filter,Zdv,decide_eq_true_eq]
 unfold Zjh
 simp only [← hm]
 clear hm
 revert hn
 generalize (Zcf.filter fun v=>decide (F v≠.k v))=L
 intro hn
 induction L with
 | nil=>rfl
 | cons c l ih=>
  have hn':=List.nodup_cons.1 hn
  simp only [List.map_cons,Zcl,List.mem_cons]
  by_cases e:c=v
  ·subst e; simp
  ·rw [if_neg e,ih hn'.2]
   have:¬ v=c:=fun h=>e h.symm
   simp [this]
theorem BOk.unif {a b:Ty} {F:Nat→Ty} (h:Yeg a b F) (hs:Znn F=true):BOk 60 (Zjh F):=by
 unfold Znn at hs
 rw [List.all_eq_true] at hs
 refine ⟨fun p hp=>?_,?_⟩
 ·unfold Zjh at hp
  obtain ⟨v,hv,rfl⟩:=List.mem_map.1 hp
  rw [List.mem_filter,decide_eq_true_eq] at hv
  have hvv:=(Zdv v).1 hv.1
  have:=hs v hv.1
  simp only [Bool.or_eq_true,decide_eq_true_eq] at this
  exact ⟨hvv,h.2 v hvv,this.resolve_left hv.2⟩
 ·have:(Zjh F).map (·.1)=Zcf.filter fun v=>decide (F v≠.k v):=by unfold Zjh; rw [List.map_map]; simp [Function.comp_def]
  rw [this]; exact Zfc.filter _
theorem Zio (F:Nat→Ty):∀ a:Ty,subst (Zcl (Zjh F)) a=sb Zam F a
 | .k c=>by
  simp only [subst,sb,Zjl]
  by_cases hv:Zam c=true
  ·by_cases he:F c=.k c
   ·simp [hv,he]
   ·simp [hv,he]
  ·simp [hv]
 | .u c a=>by simp only [subst,sb,Zio F a]
 | .w c a b=>by simp only [subst,sb,Zio F a,Zio F b]
theorem Zoe {v:Nat} (hv:Zam v=true):∀ {t:Ty},occ v t=true ↔ v∈Zgi t
 | .k c=>by
  simp only [occ,decide_eq_true_eq,Zgi]
  constructor
  ·rintro rfl; simp [hv]
  ·intro h; split at h
   ·rw [List.mem_singleton] at h; exact h.symm
   ·cases h
 | .u c a=>by simp only [occ,Zgi]; exact Zoe hv
 | .w c a b=>by simp only [occ,Zgi,Bool.or_eq_true,List.mem_append,Zoe hv (t:=a),Zoe hv (t:=b)]
theorem Yeg.idem {a b:Ty} {F:Nat→Ty} (h:Yeg a b F) {v:Nat} (hv:Zam v=true):sb Zam F (F v)=F v:=h.1.gen F h.1.sol v hv
theorem Ygt (θ:Nat→Ty):∀ (a:Ty),sb Zam θ a=subst (fun c=>if Zam c=true∧c∈Zgi a then some (θ c) else none) a:=by
 have key:∀ (a:Ty) (p:Nat→Prop) [DecidablePred p],(∀ c∈Zgi a,p c)→sb Zam θ a=subst (fun c=>if Zam c=true∧p c then some (θ c) else none) a:=by
  intro a
  induction a with
  | k c=>
   intro p _ hp
   simp only [sb,subst]
   by_cases hv:Zam c=true
   ·have:=hp c (by simp [Zgi,hv]); simp [hv,this]
   ·simp [hv]
  | u c a ih=>intro p _ hp; simp only [sb,subst]; rw [ih p hp]
  | w c a b iha ihb=>intro p _ hp; simp only [sb,subst]; rw [iha p fun c hc=>hp c (by simp [Zgi,hc]),ihb p fun c hc=>hp c (by simp [Zgi,hc])]
 exact fun a=>key a (fun c=>c∈Zgi a) fun c h=>h
theorem Zmf {θ:Nat→Ty}:∀ {a:Ty},(sb Zam θ a).ok=true→∀ c∈Zgi a,(θ c).ok=true
 | .k d,h,c,hc=>by
  simp only [Zgi] at hc
  split at hc
  ·rename_i hv; simp at hc; subst hc; simpa [sb,hv] using h
  ·cases hc
 | .u d a,h,c,hc=>by simp only [sb,Ty.ok,Bool.and_eq_true] at h; exact Zmf h.2 c hc
 | .w d a b,h,c,hc=>by
  simp only [sb,Ty.ok,Bool.and_eq_true] at h
  simp only [Zgi,List.mem_append] at hc
  rcases hc with hc | hc
  ·exact Zmf h.1.2 c hc
  ·exact Zmf h.2 c hc
theorem Zyl {p s:List Nat} {a t:Ty} (ha:Zeh p=some a) (ht:Zeh s=some t):Zsv p s=true ↔ ∃ θ,sb Zam θ a=t:=by
 rw [Yeb ha ht]
 constructor
 ·rintro ⟨f,hf,rfl⟩
  refine ⟨fun c=>(f c).getD (.k c),?_⟩
  have:∀ a:Ty,sb Zam (fun c=>(f c).getD (.k c)) a=subst f a:=by
   intro a
   induction a with
   | k c=>
    simp only [sb,subst]
    by_cases hv:Zam c=true
    ·simp [hv]
    ·rw [hf.nv c (by simpa using hv)]; simp [hv]
   | u c a ih=>simp only [sb,subst,ih]
   | w c a b iha ihb=>simp only [sb,subst,iha,ihb]
  exact this a
 ·rintro ⟨θ,rfl⟩
  refine ⟨_,⟨fun v hv=>by simp [hv],fun v u h=>?_⟩,(Ygt θ a).symm⟩
  split at h
  ·rename_i hc; cases h; exact Zmf (Zbw.1 ht).1 v hc.2
  ·cases h
theorem Ztz {s t:List Nat} {l:List Nd} (h:Zgp s t=some l):Zez l=true∧Znl s=true∧Znl t=true∧Zgh l s=Zgh l t∧(∀ p∈l,∀ q∈l,q.2.count (p.1.headD 0)=0) ∧
  ∀ c,Zfu l s=some c→Zsv s c=true∧Zsv t c=true:=by
 unfold Zgp at h
 split at h
 ·rename_i a b ha hb
  split at h
  ·rename_i F hF
   split at h
   ·rename_i hs
    cases h
    have mg:=Zsf hF
    have bo:=BOk.unif mg hs
    have bk:=Yab bo
    obtain ⟨a1,a2,a3⟩:=Zbw.1 ha
    obtain ⟨b1,b2,b3⟩:=Zbw.1 hb
    have e1:=Zig bk a1
    have e2:=Zig bk b1
    rw [← a2,funext (Zvh bo),Zio] at e1
    rw [← b2,funext (Zvh bo),Zio] at e2
    refine ⟨bk,Zpi ha,Zpi hb,by rw [e1.1,e2.1,mg.1.sol],fun p hp q hq=>?_,fun c hc=>?_⟩
    ·have key:∀ p∈bdL (Zjh F),∃ v,Zam v=true∧F v≠.k v∧p=([v],(F v).txt):=by
      intro p hp
      unfold bdL at hp
      obtain ⟨v,hv,he⟩:=List.mem_filterMap.1 hp
      rw [Zjl] at he
      split at he
      ·rename_i hc; cases he; exact ⟨v,hc.1,hc.2,rfl⟩
      ·cases he
     obtain ⟨v,hv,hvn,rfl⟩:=key p hp
     obtain ⟨u,hu,hun,rfl⟩:=key q hq

     simp only [List.headD_cons]
     rw [List.count_eq_zero,Ycy (mg.2 u hu) v hv,← Zoe hv]
     intro ho
     exact hvn (Zvj (mg.idem hu) v hv ho)
    ·unfold Zfu at hc
     split at hc
     ·rename_i hl
      cases hc
      simp only [Bool.and_eq_true,decide_eq_true_eq] at hl
      have hT:Zeh (Zgh (bdL (Zjh F)) s)=some (sb Zam F a):=Zbw.2 ⟨e1.2,e1.1,hl.2⟩
      exact ⟨(Zyl ha hT).2 ⟨F,rfl⟩,(Zyl hb hT).2 ⟨F,mg.1.sol.symm⟩⟩
     ·cases hc
   ·cases h
  ·cases h
 ·cases h
noncomputable def Zhw (s t:List Nat):Option (List Nat):=(Zgp s t).bind fun l=>Zfu l s
end Go.Sim

set_option linter.unusedSimpArgs false
set_option linter.unusedVariables false
namespace Go.Sim
def Zwr (c:Nat):Bool:=decide (49≤c∧c≤54)
def V12 (c:Nat):Bool:=Zam c || Zwr c
theorem Zos (c:Nat):Zam c=true ↔ (88≤c∧c≤90) ∨ (120≤c∧c≤122):=by simp [Zam]; omega
theorem Zrw {c:Nat} (h:Zdm c=true):Zwr c=false:=by
 unfold Zdm at h
 simp only [Bool.or_eq_true,beq_iff_eq,Zos] at h
 unfold Zwr
 simp; omega
theorem Znb (θ:Nat→Ty):∀ {a:Ty},a.ok=true→sb V12 θ a=sb Zam θ a
 | .k c,h=>by
  simp only [Ty.ok] at h
  simp only [sb,V12,Zrw h,Bool.or_false]
 | .u c a,h=>by simp only [Ty.ok,Bool.and_eq_true] at h; simp only [sb,Znb θ h.2]
 | .w c a b,h=>by simp only [Ty.ok,Bool.and_eq_true] at h; simp only [sb,Znb θ h.1.2,Znb θ h.2]
end Go.Sim

set_option linter.unusedSimpArgs false
set_option linter.unusedVariables false
namespace Go.Sim
def okL (lf:Nat→Bool):Ty→Bool
 | .k c=>lf c
 | .u c a=>(c == 108 || c == 109) && okL lf a
 | .w c a b=>c == 112 && okL lf a && okL lf b
theorem Zpl:∀ {t:Ty},okL Zdm t=t.ok
 | .k c=>rfl
 | .u c a=>by simp only [okL,Ty.ok,Zpl (t:=a)]
 | .w c a b=>by simp only [okL,Ty.ok,Zpl (t:=a),Zpl (t:=b)]
def Zpk (c:Nat):Bool:=Zdm c || Zwr c
theorem Zqf {lf lf':Nat→Bool} (h:∀ c,lf c=true→lf' c=true):∀ {t:Ty},okL lf t=true→okL lf' t=true
 | .k c,ht=>h c ht
 | .u c a,ht=>by simp only [okL,Bool.and_eq_true] at ht ⊢; exact ⟨ht.1,Zqf h ht.2⟩
 | .w c a b,ht=>by simp only [okL,Bool.and_eq_true] at ht ⊢; exact ⟨⟨ht.1.1,Zqf h ht.1.2⟩,Zqf h ht.2⟩
section
variable {V lf:Nat→Bool}
theorem Ydo {t:Ty} (h:okL lf t=true):∀ p∈t.ps,okL lf p=true:=by
 cases t with
 | k c=>simp [Ty.ps]
 | u c a=>simp only [okL,Bool.and_eq_true] at h; intro p hp; simp [Ty.ps] at hp; subst hp; exact h.2
 | w c a b=>simp only [okL,Bool.and_eq_true] at h; intro p hp; simp [Ty.ps] at hp; rcases hp with rfl | rfl; exact h.1.2; exact h.2
def unb (L:List Nat) (σ:Nat→Option Ty):Nat:=L.countP fun v=>(σ v).isNone
theorem Yit {L:List Nat} {σ:Nat→Option Ty} {x:Nat} {b:Ty} (hx:σ x=none) (hL:x∈L):unb L (upd σ x b) < unb L σ:=by
 unfold unb
 induction L with
 | nil=>cases hL
 | cons n N ih=>
  have hm:N.countP (fun v=>(upd σ x b v).isNone)≤N.countP fun v=>(σ v).isNone:=List.countP_mono_left fun v _ h=>by
   unfold upd at h
   split at h
   ·cases h
   ·exact h
  rw [List.countP_cons,List.countP_cons]
  by_cases e:n=x
  ·subst e
   have:(upd σ n b n).isNone=false:=by simp [upd]
   rw [this,hx]; simp; omega
  ·have:=ih ((List.mem_cons.1 hL).resolve_left fun h=>e h.symm)
   have h2:(upd σ x b n).isNone=(σ n).isNone:=by simp [upd,e]
   rw [h2]; omega
theorem Zui {F:Nat→Ty} {M:Nat} (hM:1≤M):∀ {t:Ty},(∀ c,V c=true→occ c t=true→(F c).size≤M)→(sb V F t).size≤t.size * M
 | .k c,h=>by
  unfold sb; split
  ·rename_i hv; have:=h c hv (by simp [occ]); simp [Ty.size]; exact this
  ·simp [Ty.size]; exact hM
 | .u c a,h=>by
  have:=Zui hM (t:=a) fun c hv ho=>h c hv (by simpa [occ] using ho)
  simp only [sb,Ty.size,Nat.succ_mul]; omega
 | .w c a b,h=>by
  have h1:=Zui hM (t:=a) fun c hv ho=>h c hv (by simp [occ,ho])
  have h2:=Zui hM (t:=b) fun c hv ho=>h c hv (by simp [occ,ho])
  simp only [sb,Ty.size,Nat.succ_mul,Nat.add_mul]; omega
theorem Zqc:∀ t:Ty,t.txt.length≤4 * t.size
 | .k c=>by simp [Ty.txt,Ty.size]
 | .u c a=>by have:=Zqc a; simp [Ty.txt,Ty.size]; omega
 | .w c a b=>by have:=Zqc a; have:=Zqc b; simp [Ty.txt,Ty.size]; omega
theorem Zoj:∀ t:Ty,t.size≤t.txt.length
 | .k c=>by simp [Ty.txt,Ty.size]
 | .u c a=>by have:=Zoj a; simp [Ty.txt,Ty.size]; omega
 | .w c a b=>by have:=Zoj a; have:=Zoj b; simp [Ty.txt,Ty.size]; omega
theorem Wlk.end_in {σ:Nat→Option Ty} {n:Nat} {s t:Ty} (h:Wlk σ n s t):t=s ∨ ∃ c,σ c=some t:=by
 induction h with
 | stop=>exact .inl rfl
 | @step c n u t h1 _ ih=>
  rcases ih with h | h
  ·exact .inr ⟨c,by rw [h]; exact h1⟩
  ·exact .inr h
theorem Ykp {σ:Nat→Option Ty} {F:Nat→Ty} (r:Rsv Zam σ F) (hz:∀ c t,σ c=some t→t.size≤60):∀ (k c:Nat),Zam c=true→Zcf.countP (fun d=>decide ((F d).size < (F c).size))≤k→(F c).size≤60 ^ (k + 1):=by
 intro k
 induction k using Nat.strongRecOn with
 | ind k ih=>
  intro c hc hk
  have hpos:1≤60 ^ (k + 1):=Nat.one_le_pow _ _ (by omega)
  obtain ⟨n,t,hw⟩:=r.wlk c
  have hF:F c=sb Zam F t:=by have:=hw.sbF r; rw [sb,if_pos hc] at this; exact this
  by_cases hv:∃ d,t=.k d
  ·obtain ⟨d,rfl⟩:=hv
   rw [hF,r.var (hw.end_ d rfl)]; exact hpos
  ·have ht:t.size≤60:=by
    rcases hw.end_in with h | ⟨d,h⟩
    ·exact absurd ⟨c,h⟩ hv
    ·exact hz d t h
   have hlt:∀ d,Zam d=true→occ d t=true→(F d).size < (F c).size:=fun d hd ho=>by
    rw [hF]; exact Zyj hd ho fun e=>hv ⟨d,e⟩
   have hd:∀ d,Zam d=true→occ d t=true→(F d).size≤60 ^ k:=by
    intro d hd ho
    have h1:=hlt d hd ho
    have hcnt:Zcf.countP (fun e=>decide ((F e).size < (F d).size)) < Zcf.countP (fun e=>decide ((F e).size < (F c).size)):=by
     have key:∀ L:List Nat,d∈L→L.countP (fun e=>decide ((F e).size < (F d).size)) < L.countP (fun e=>decide ((F e).size < (F c).size)):=by
      intro L hL
      induction L with
      | nil=>cases hL
      | cons n N ih=>
       have hm:N.countP (fun e=>decide ((F e).size < (F d).size))≤N.countP (fun e=>decide ((F e).size < (F c).size)):=List.countP_mono_left fun e _ h=>by
        simp only [decide_eq_true_eq] at h ⊢; omega
       rw [List.countP_cons,List.countP_cons]
       by_cases e:n=d
       ·subst e
        rw [if_neg (by simp),if_pos (by simpa using h1)]; omega
       ·have:=ih ((List.mem_cons.1 hL).resolve_left fun h=>e h.symm)
        by_cases h2:(F n).size < (F d).size
        ·rw [if_pos (by simpa using h2),if_pos (by simp; omega)]; omega
        ·rw [if_neg (by simpa using h2)]; split <;> omega
     exact key _ ((Zdv d).2 hd)
    match k,hk with
    | 0,hk=>omega
    | k + 1,hk=>exact ih k (by omega) d hd (by omega)
   rw [hF]
   have h1:1≤60 ^ k:=Nat.one_le_pow _ _ (by omega)
   have:=Zui (V:=Zam) (F:=F) h1 hd
   have h2:t.size * 60 ^ k≤60 * 60 ^ k:=Nat.mul_le_mul_right _ ht
   rw [Nat.pow_succ]; omega
theorem Yir {σ:Nat→Option Ty} {F:Nat→Ty} (r:Rsv Zam σ F) (hz:∀ c t,σ c=some t→t.size≤60) {c:Nat} (hc:Zam c=true):(F c).size≤60 ^ 7:=
 Ykp r hz 6 c hc (Nat.le_trans (List.countP_le_length) (by decide))
end
end Go.Sim

set_option linter.unusedSimpArgs false
set_option linter.unusedVariables false
namespace Go.Sim
section
variable {V lf:Nat→Bool} {σ:Nat→Option Ty} {F:Nat→Ty}
theorem Zse {θ:Nat→Ty}:∀ {t:Ty},okL lf t=true→(∀ c,V c=true→occ c t=true→okL lf (θ c)=true)→okL lf (sb V θ t)=true
 | .k c,h,hθ=>by
  unfold sb; split
  ·rename_i hv; exact hθ c hv (by simp [occ])
  ·exact h
 | .u c a,h,hθ=>by
  simp only [okL,Bool.and_eq_true] at h
  simp only [sb,okL,Bool.and_eq_true]
  exact ⟨h.1,Zse h.2 fun c hv ho=>hθ c hv (by simpa [occ] using ho)⟩
 | .w c a b,h,hθ=>by
  simp only [okL,Bool.and_eq_true] at h
  simp only [sb,okL,Bool.and_eq_true]
  exact ⟨⟨h.1.1,Zse h.1.2 fun c hv ho=>hθ c hv (by simp [occ,ho])⟩,Zse h.2 fun c hv ho=>hθ c hv (by simp [occ,ho])⟩
theorem Rsv.okF (r:Rsv V σ F) (hl:∀ c,V c=true→lf c=true) (hσ:∀ c t,σ c=some t→okL lf t=true):∀ (N c:Nat),(F c).size≤N→V c=true→okL lf (F c)=true:=by
 intro N
 induction N with
 | zero=>intro c h; have:=Zlx (F c); omega
 | succ N ih=>
  intro c h hc
  obtain ⟨n,t,hw⟩:=r.wlk c
  have hF:F c=sb V F t:=by have:=hw.sbF r; rw [sb,if_pos hc] at this; exact this
  have hok:t=.k c ∨ okL lf t=true:=by
   rcases hw.end_in with h | ⟨d,h⟩
   ·exact .inl h
   ·exact .inr (hσ d t h)
  cases t with
  | k x=>
   rw [hF,r.var (hw.end_ x rfl)]
   rcases hok with e | e
   ·cases e; exact hl c hc
   ·exact e
  | u x a=>
   have ho:=hok.resolve_left (by simp)
   rw [hF]
   refine Zse ho fun d hd hocc=>ih d ?_ hd
   have:=Zyj (θ:=F) hd hocc (by simp)
   rw [← hF] at this; omega
  | w x a b=>
   have ho:=hok.resolve_left (by simp)
   rw [hF]
   refine Zse ho fun d hd hocc=>ih d ?_ hd
   have:=Zyj (θ:=F) hd hocc (by simp)
   rw [← hF] at this; omega
theorem Rsv.free (r:Rsv V σ F) {c:Nat} (hc:V c=true):F c=.k c ↔ σ c=none:=by
 constructor
 ·intro h
  obtain ⟨n,t,hw⟩:=r.wlk c
  have hF:F c=sb V F t:=by have:=hw.sbF r; rw [sb,if_pos hc] at this; exact this
  cases t with
  | k x=>
   have hx:=hw.end_ x rfl
   rw [hF,r.var hx] at h
   cases h; exact hx
  | u x a=>rw [hF] at h; simp [sb] at h
  | w x a b=>rw [hF] at h; simp [sb] at h
 ·exact r.non c
theorem Rsv.walked (r:Rsv V σ F) (P:Ty→Prop) (hσ:∀ c t,σ c=some t→P t) {t:Ty} (ht:P t):∃ n t',Wlk σ n t t'∧P t'∧sb V F t=sb V F t':=by
 obtain ⟨n,t',hw⟩:=r.walk t
 refine ⟨n,t',hw,?_,hw.sbF r⟩
 rcases hw.end_in with h | ⟨d,h⟩
 ·rw [h]; exact ht
 ·exact hσ d t' h
theorem Yjf {θ:Nat→Ty} {t:Ty} (h:t.ps≠[] ∨ V t.hd=false):(sb V θ t).hd=t.hd∧(sb V θ t).ps=t.ps.map (sb V θ):=by
 cases t with
 | k c=>
  have:V c=false:=h.resolve_left (by simp [Ty.ps])
  simp [sb,this,Ty.hd,Ty.ps]
 | u c a=>simp [sb,Ty.hd,Ty.ps]
 | w c a b=>simp [sb,Ty.hd,Ty.ps]
theorem Yhh {θ:Nat→Ty} {a b:Ty} (ha:a.ps≠[] ∨ V a.hd=false) (hb:b.ps≠[] ∨ V b.hd=false) (hh:a.hd=b.hd) (hl:a.ps.length=b.ps.length) :
  sb V θ a=sb V θ b ↔ ∀ (i:Nat) (p q:Ty),a.ps[i]?=some p→b.ps[i]?=some q→sb V θ p=sb V θ q:=by
 cases a with
 | k c=>
  have hb0:b.ps=[]:=List.eq_nil_of_length_eq_zero (by rw [← hl]; rfl)
  have hb1:b=.k c:=by cases b with
   | k d=>simp [Ty.hd] at hh; rw [hh]
   | u d x=>simp [Ty.ps] at hb0
   | w d x y=>simp [Ty.ps] at hb0
  subst hb1
  exact ⟨fun _ i p q h=>by simp [Ty.ps] at h,fun _=>rfl⟩
 | u c x=>
  cases b with
  | k d=>simp [Ty.ps] at hl
  | u d y=>
   simp [Ty.hd] at hh; subst hh
   simp only [sb,Ty.u.injEq,true_and]
   constructor
   ·intro h i p q h1 h2
    match i with
    | 0=>simp [Ty.ps] at h1 h2; subst h1; subst h2; exact h
    | i + 1=>simp [Ty.ps] at h1
   ·intro h; exact h 0 x y rfl rfl
  | w d y z=>simp [Ty.ps] at hl
 | w c x x'=>
  cases b with
  | k d=>simp [Ty.ps] at hl
  | u d y=>simp [Ty.ps] at hl
  | w d y y'=>
   simp [Ty.hd] at hh; subst hh
   simp only [sb,Ty.w.injEq,true_and]
   constructor
   ·intro h i p q h1 h2
    match i with
    | 0=>simp [Ty.ps] at h1 h2; subst h1; subst h2; exact h.1
    | 1=>simp [Ty.ps] at h1 h2; subst h1; subst h2; exact h.2
    | i + 2=>simp [Ty.ps] at h1
   ·intro h; exact ⟨h 0 x y rfl rfl,h 1 x' y' rfl rfl⟩
theorem Yge {θ:Nat→Ty} {a b:Ty} (ha:a.ps≠[] ∨ V a.hd=false) (hb:b.ps≠[] ∨ V b.hd=false) (hh:a.hd≠b.hd):sb V θ a≠sb V θ b:=by
 intro h
 have h1:=(Yjf (θ:=θ) ha).1
 rw [h,(Yjf hb).1] at h1
 exact hh h1.symm
theorem Zxr {v:Nat} {t:Ty} (ht:t.ps≠[] ∨ V t.hd=false) (hv:V v=true) (θ:Nat→Ty):occ v (sb V θ t)=t.ps.any fun p=>occ v (sb V θ p):=by
 cases t with
 | k c=>
  have:V c=false:=ht.resolve_left (by simp [Ty.ps])
  have hne:c≠v:=fun e=>by rw [e,hv] at this; cases this
  simp [sb,this,occ,Ty.ps,hne]
 | u c a=>simp [sb,occ,Ty.ps]
 | w c a b=>simp [sb,occ,Ty.ps]
theorem Zlm {t p:Ty} (hp:p∈t.ps) (θ:Nat→Ty):(sb V θ p).size < (sb V θ t).size:=by
 cases t with
 | k c=>simp [Ty.ps] at hp
 | u c a=>simp [Ty.ps] at hp; subst hp; simp [sb,Ty.size]
 | w c a b=>simp [Ty.ps] at hp; rcases hp with rfl | rfl <;> simp [sb,Ty.size] <;> omega
end
end Go.Sim

set_option linter.unusedVariables false
set_option linter.unusedSimpArgs false
set_option maxRecDepth 20000
namespace Go.Sim
open Go Go.RowKit

theorem Zne {t:Ty} (h:okL Zpk t=true):t.hd∈[105,98,117,120,121,122,88,89,90,49,50,51,52,53,54,108,109,112]:=by
 cases t with
 | k c=>
  simp only [okL,Zpk,Bool.or_eq_true,Zdm,Zos,beq_iff_eq,Zwr,decide_eq_true_eq] at h
  simp only [Ty.hd,List.mem_cons,List.not_mem_nil,or_false]
  omega
 | u c a=>
  simp only [okL,Bool.and_eq_true,Bool.or_eq_true,beq_iff_eq] at h
  simp only [Ty.hd,List.mem_cons,List.not_mem_nil,or_false]
  omega
 | w c a b=>
  simp only [okL,Bool.and_eq_true,beq_iff_eq] at h
  simp only [Ty.hd,List.mem_cons,List.not_mem_nil,or_false]
  omega
theorem Zkd {t:Ty} (h:okL Zpk t=true) (hv:V12 t.hd=true):t=.k t.hd:=by
 cases t with
 | k c=>rfl
 | u c a=>
  simp only [okL,Bool.and_eq_true,Bool.or_eq_true,beq_iff_eq] at h
  simp only [Ty.hd] at hv
  rcases h.1 with e | e <;> rw [e] at hv <;> exact absurd hv (by decide)
 | w c a b=>
  simp only [okL,Bool.and_eq_true,beq_iff_eq] at h
  simp only [Ty.hd] at hv
  rw [h.1.1] at hv; exact absurd hv (by decide)
theorem Zji {c:Nat} (h:V12 c=true):∃ k:Nat,k < 12∧Zee[k]?=some c∧Zme Zee c=(k:Int):=by
 simp only [V12,Bool.or_eq_true,Zos,Zwr,decide_eq_true_eq] at h
 have:c=88 ∨ c=89 ∨ c=90 ∨ c=120 ∨ c=121 ∨ c=122 ∨ c=49 ∨ c=50 ∨ c=51 ∨ c=52 ∨ c=53 ∨ c=54:=by omega
 rcases this with rfl | rfl | rfl | rfl | rfl | rfl | rfl | rfl | rfl | rfl | rfl | rfl
 ·exact ⟨0,by omega,rfl,rfl⟩
 ·exact ⟨1,by omega,rfl,rfl⟩
 ·exact ⟨2,by omega,rfl,rfl⟩
 ·exact ⟨3,by omega,rfl,rfl⟩
 ·exact ⟨4,by omega,rfl,rfl⟩
 ·exact ⟨5,by omega,rfl,rfl⟩
 ·exact ⟨6,by omega,rfl,rfl⟩
 ·exact ⟨7,by omega,rfl,rfl⟩
 ·exact ⟨8,by omega,rfl,rfl⟩
 ·exact ⟨9,by omega,rfl,rfl⟩
 ·exact ⟨10,by omega,rfl,rfl⟩
 ·exact ⟨11,by omega,rfl,rfl⟩
theorem Zqm {t:Ty} (h:okL Zpk t=true) (hv:V12 t.hd=false):Zme Zee t.hd=-1:=by
 apply Zre
 have:=Zne h
 simp only [List.mem_cons,List.not_mem_nil,or_false] at this
 rcases this with e | e | e | e | e | e | e | e | e | e | e | e | e | e | e | e | e | e <;> rw [e] at hv ⊢ <;> first | (exact absurd hv (by decide)) | decide
theorem Ydq {k v:Nat} (h:Zee[k]?=some v):V12 v=true:=by
 have:=List.mem_of_getElem? h
 simp only [Zee,List.mem_cons,List.not_mem_nil,or_false] at this
 rcases this with rfl | rfl | rfl | rfl | rfl | rfl | rfl | rfl | rfl | rfl | rfl | rfl <;> decide
theorem Zvz:Zee.Nodup:=by decide
def Zna (S:Nat→Prop) (h:Zaa) (i:Nat) (σ:Nat→Option Ty):Prop:=∃ rows:List (Zad × Zad),rows.length=12∧h[i]?=some (.cells Zbe (Zec eR rows) false) ∧
 ∀ (k:Nat) (x:Zad × Zad) (v:Nat),rows[k]?=some x→Zee[k]?=some v→match σ v with | some t=>Zdk S h t (eR x) | none=>x=(.int .u8 0,.slice none 0 0 true)
section
variable {S:Nat→Prop} {h h':Zaa} {i:Nat} {σ:Nat→Option Ty} {F:Nat→Ty}
theorem Zna.lt (r:Zna S h i σ):i < h.length:=by obtain ⟨_,_,h2,_⟩:=r; exact Own.lt h2
theorem Zna.keep (r:Zna S h i σ) (hi:h'[i]?=h[i]?) (hh:∀ j,S j→j < h.length→h'[j]?=h[j]?):Zna S h' i σ:=by
 obtain ⟨rows,h1,h2,h3⟩:=r
 refine ⟨rows,h1,by rw [hi]; exact h2,fun k x v hx hv=>?_⟩
 have:=h3 k x v hx hv
 split at this
 ·exact this.keep hh
 ·exact this
theorem Zna.same (r:Zna S h i σ) (s:Zbi h.length h h'):Zna S h' i σ:=r.keep (s.eq i r.lt) fun j _ hj=>s.eq j hj
theorem Zna.get (r:Zna S h i σ) {k v:Nat} (hk:Zee[k]?=some v):∃ x:Zad × Zad,Zah h (.ptr (some (i,0 + k * 2 + 0)))=some x.1∧Zcv h (.ptr (some (i,0 + k * 2))) 2=some [x.1,x.2] ∧
  match σ v with | some t=>Zdk S h t [x.1,x.2] | none=>x=(.int .u8 0,.slice none 0 0 true):=by
 obtain ⟨rows,h1,h2,h3⟩:=r
 have hk12:k < 12:=(List.getElem?_eq_some_iff.1 hk).1
 have hrow:Row h.length h (some (i,0)) (12 * 2) (Zec eR rows):=⟨by rw [Zbc Zgv,h1],.inr ⟨i,0,_,_,_,rfl,Own.lt h2,h2,by rw [Zbc Zgv,h1]; simp,by rw [List.drop_zero,List.take_of_length_le (by rw [Zbc Zgv,h1]; simp)]⟩⟩
 obtain ⟨i',o',hk',he,_,hr,hc⟩:=Row.el Zgv hrow h1 hk12 (by omega)
 cases he
 exact ⟨rows[k],by have:=hc 0 (by omega); simpa [eR] using this,hr,h3 k _ v (List.getElem?_eq_getElem hk') hk⟩
theorem Zna.nil (hi:h[i]?=some (.cells Zbe (Zec eR (List.replicate 12 (.int .u8 0,.slice none 0 0 true))) false)):Zna S h i (fun _=>none):=by
 refine ⟨_,by simp,hi,fun k x v hx _=>?_⟩
 rw [List.getElem?_replicate] at hx
 split at hx
 ·cases hx; rfl
 ·cases hx
theorem Zna.put (r:Zna S h i σ) (hSi:∀ j,S j→j≠i) {k v:Nat} (hk:Zee[k]?=some v) {t:Ty} {x y:Zad} (ht:Zdk S h t [x,y]) :
  ∃ h',Zbf h (.ptr (some (i,0 + k * 2))) [x,y]=some h'∧Zeo i h h'∧Zna S h' i (upd σ v t):=by
 obtain ⟨rows,h1,h2,h3⟩:=r
 have hk12:k < 12:=(List.getElem?_eq_some_iff.1 hk).1
 have hput:putRow (Zec eR rows) (k * 2) (eR (x,y))=Zec eR (rows.set k (x,y)):=Zqd Zgv (by omega)
 refine ⟨h.set i (.cells Zbe (Zec eR (rows.set k (x,y))) false),?_,Zeo.set _ _ _,?_⟩
 ·rw [Nat.zero_add,Zbj h2 (by rw [Zbc Zgv,h1]; simp; omega),← hput]; rfl
 ·have hkeep:∀ j,S j→j < h.length→(h.set i (.cells Zbe (Zec eR (rows.set k (x,y))) false))[j]?=h[j]?:=fun j hj _=>Zbr (fun e=>hSi j hj e.symm)
  refine ⟨_,by simp [h1],Zch h2,fun k' x' v' hx' hv'=>?_⟩
  by_cases e:k=k'
  ·subst e
   rw [hk] at hv'
   cases hv'
   rw [List.getElem?_set_self (by omega)] at hx'
   cases hx'
   simp only [upd,if_true]
   exact ht.keep hkeep
  ·rw [List.getElem?_set_ne e] at hx'
   have:=h3 k' x' v' hx' hv'
   have hne:v'≠v:=fun e'=>by
    subst e'
    have h5:=List.getElem?_eq_some_iff.1 hk
    have h6:=List.getElem?_eq_some_iff.1 hv'
    exact e ((List.getElem_inj (h₀:=h5.1) (h₁:=h6.1) Zvz).1 (h5.2.trans h6.2.symm))
   rw [show upd σ v t v'=σ v' by simp [upd,hne]]
   split at this
   ·exact this.keep hkeep
   ·exact this
theorem Zns (m:Zna S h i σ) (hSi:∀ j,S j→j < h.length∧j≠i) (hdom:∀ c u,σ c=some u→V12 c=true∧okL Zpk u=true) {n:Nat} {t t':Ty} (ht:okL Zpk t=true) (hw:Wlk σ n t t') {vs:List Zad} (r:Zdk S h t vs) :
  Zac pg Zft [.ptr (some (i,0)),.agg vs] h fun v h'=>Zbi h.length h h'∧∃ vs',v=.agg vs'∧Zdk S h' t' vs':=by
 obtain ⟨a,c,e,rfl⟩:=r.shape
 have hil:=m.lt
 apply Zew.call
 simp only [Zba]
 generalize hh0:h ++ [Zci.cells Zab [.int .u8 (t.hd:Int),.slice a t.ps.length c e] false]=h0
 generalize hh1:h0 ++ [Zci.cells Zab [.int .u8 0,.slice none 0 0 true] false]=h1
 have s0:Zbi h.length h h0:=by rw [← hh0]; exact Zav
 have s1:Zbi h0.length h0 h1:=by rw [← hh1]; exact Zav
 have o0:h0[h.length]?=some (.cells Zab [.int .u8 (t.hd:Int),.slice a t.ps.length c e] false):=by rw [← hh0]; simp
 have oa:=s1.get o0 (Own.lt o0)
 have oz:h1[h0.length]?=some (.cells Zab [.int .u8 0,.slice none 0 0 true] false):=by rw [← hh1]; simp
 have S1:=s0.cat s1
 have l0:h0.length=h.length + 1:=by rw [← hh0]; simp
 have l1:h1.length=h.length + 2:=by rw [← hh1]; simp [l0]
 simp only [Zal oa,Nat.zero_add,List.getElem?_cons_zero,Zae]
 refine (Zih t.hd).mono ?_
 rintro v h2 ⟨rfl,rfl⟩
 simp only [Zae]
 refine Zew.L2ind (J:=fun (g:Nat) x5 h'=>∃ (u:Ty) (us:List Zad),Wlk σ g u t'∧okL Zpk u=true∧Zdk S h u us∧x5=Zme Zee u.hd∧Zbi h.length h h'∧h'[h.length]?=some (.cells Zab us false)∧h'[h0.length]?=some (.cells Zab [.int .u8 0,.slice none 0 0 true] false)∧h2.length≤h'.length) (m:=fun g=>g) (hr:=?_) (g:=n)
  (hj:=⟨t,_,hw,ht,r,rfl,S1,oa,oz,Nat.le_refl _⟩)
 rintro g x5 h3 ⟨u,us,hwu,hu,ru,rfl,S3,ou,oz3,l3⟩ R hR
 unfold Zew.L2t
 obtain ⟨ua,uc,ue,rfl⟩:=ru.shape
 have stop:t'=u→Zew.A2x0 (fun v h'=>Zbi h.length h h'∧∃ vs',v=.agg vs'∧Zdk S h' t' vs') h.length 0 h0.length 0 h3:=by
  rintro rfl
  apply Zew.A2x0i
  rw [Zdp ou]
  simp only [Zaw,Zaf,Zan,Zae,Zak]
  rw [Zbj oz3 (by simp)]
  simp only [Zas,putRow,List.take_zero,List.length_cons,List.length_nil,List.drop_succ_cons,List.drop_zero,List.drop_nil,List.cons_append,List.nil_append,List.append_nil,Nat.zero_add]
  rw [Zdp (Zch oz3)]
  simp only [Zaw,Zaf,Zan,Zae,Zak]
  have S4:Zbi h.length h (h3.set h0.length (.cells Zab [.int .u8 (t'.hd:Int),.slice ua t'.ps.length uc ue] false)):=⟨by simp; exact S3.le,fun j hj=>by rw [Zbr (by omega)]; exact S3.eq j hj⟩
  exact ⟨S4,_,rfl,ru.same S4⟩
 have mm:=m.same S3
 cases hv:V12 u.hd with
 | false=>
  rw [Zqm hu hv]
  refine Zar (fun h=>by omega) (fun _=>stop ?_)
  cases hwu with
  | stop _=>rfl
  | step h1 _=>have:=(hdom _ _ h1).1; simp only [Ty.hd] at hv; rw [this] at hv; cases hv
 | true=>
  obtain ⟨k,hk,hkv,hix⟩:=Zji hv
  have huk:=Zkd hu hv
  rw [hix]
  refine Zar (fun _=>?_) (fun h=>by omega)
  obtain ⟨x,hx1,hx2,hx3⟩:=mm.get hkv
  simp only [Zao,Int.toNat_natCast,hx1]
  cases hs:σ u.hd with
  | none=>
   rw [hs] at hx3
   simp only at hx3
   subst hx3
   simp only [Zae,show ((0:Int) == 0)=true from rfl,Bool.not_true,Zat]
   refine ⟨by omega,stop ?_⟩
   rw [huk] at hwu ⊢
   cases hwu with
   | stop _=>rfl
   | step h1 _=>rw [hs] at h1; cases h1
  | some w=>
   rw [hs] at hx3
   simp only at hx3
   have hwok:=(hdom _ _ hs).2
   obtain ⟨wa,wc,we,hwx⟩:=hx3.shape
   simp only [List.cons.injEq,and_true] at hwx
   obtain ⟨hw1,hw2⟩:=hwx
   have hne:((w.hd:Int) == 0)=false:=by
    have:=Zne hwok
    have hne:w.hd≠0:=fun e=>by rw [e] at this; simp at this
    simp; omega
   rw [hw1,hw2] at hx2 hx3
   rw [hw1]
   simp only [Zae,hne,Bool.not_false,Zaz]
   refine ⟨by omega,?_⟩
   apply Zew.J4i
   simp only [Zao,Int.toNat_natCast,hx2,Zaw,Zaf,Zan,Zae,Zak]
   rw [Zbj ou (by simp)]
   simp only [Zas,putRow,List.take_zero,List.length_cons,List.length_nil,List.drop_succ_cons,List.drop_zero,List.drop_nil,List.cons_append,List.nil_append,List.append_nil,Nat.zero_add]
   have og:=Zch ou (x:=.cells Zab [.int .u8 (w.hd:Int),.slice wa w.ps.length wc we] false)
   simp only [Zal og,List.getElem?_cons_zero,Zae]
   refine ⟨by omega,(Zih w.hd).mono ?_⟩
   rintro v h4 ⟨rfl,rfl⟩
   simp only [Zae]
   have S4:Zbi h.length h (h3.set h.length (.cells Zab [.int .u8 (w.hd:Int),.slice wa w.ps.length wc we] false)):=⟨by simp; exact S3.le,fun j hj=>by rw [Zbr (by omega)]; exact S3.eq j hj⟩
   rw [huk] at hwu
   cases hwu with
   | stop h1=>rw [h1 _ rfl] at hs; cases hs
   | step h1 h2=>
    rw [hs] at h1
    cases h1
    refine hR _ _ _ (Nat.lt_succ_self _) ⟨w,_,h2,hwok,hx3.agree (fun j hj=>(S3.eq j (hSi j hj).1).symm),rfl,S4,og,by rw [Zbr (by omega)]; exact oz3,by simpa using l3⟩
end
end Go.Sim

set_option linter.unusedVariables false
set_option linter.unusedSimpArgs false
set_option maxRecDepth 20000
namespace Go.Sim
open Go Go.RowKit

theorem Ylq {h h':Zaa} {a:Pt} {m:Nat} {cs:List Zad} (r:Row h.length h a m cs) (hl:h.length≤h'.length) (hh:∀ j o,m≠0→a=some (j,o)→j < h.length→h'[j]?=h[j]?):Row h'.length h' a m cs:=by
 obtain ⟨hc,r⟩:=r
 by_cases h0:m=0
 ·exact ⟨hc,.inl h0⟩
 ·refine ⟨hc,r.imp id ?_⟩
  rintro ⟨i,o,t,all,ro,ha,hi,hg,x⟩
  exact ⟨i,o,t,all,ro,ha,by omega,by rw [hh i o h0 ha hi]; exact hg,x⟩
theorem Yfg {f:Ty→Bool} {l:List Ty} {g:Nat} (hg:g < l.length):(l.take (g + 1)).any f=((l.take g).any f || f l[g]):=by
 rw [List.take_succ_eq_append_getElem hg,List.any_append]; simp
def Zlq (c:Nat):Nat:=(Zme Zee c).toNat
theorem Yjl {a b:Ty} (ha:okL Zpk a=true) (hb:okL Zpk b=true) (h:a.hd=b.hd):a.ps.length=b.ps.length:=by
 have no:∀ c,Zpk c=true→c≠108∧c≠109∧c≠112:=fun c hc=>⟨fun e=>by rw [e] at hc; exact absurd hc (by decide),fun e=>by rw [e] at hc; exact absurd hc (by decide),fun e=>by rw [e] at hc; exact absurd hc (by decide)⟩
 cases a with
 | k c=>
  have:=no c ha
  cases b with
  | k d=>rfl
  | u d y=>simp only [okL,Bool.and_eq_true,Bool.or_eq_true,beq_iff_eq,Ty.hd] at hb h; omega
  | w d y z=>simp only [okL,Bool.and_eq_true,beq_iff_eq,Ty.hd] at hb h; omega
 | u c x=>
  cases b with
  | k d=>have:=no d hb; simp only [okL,Bool.and_eq_true,Bool.or_eq_true,beq_iff_eq,Ty.hd] at ha h; omega
  | u d y=>rfl
  | w d y z=>simp only [okL,Bool.and_eq_true,Bool.or_eq_true,beq_iff_eq,Ty.hd] at ha hb h; omega
 | w c x y=>
  cases b with
  | k d=>have:=no d hb; simp only [okL,Bool.and_eq_true,beq_iff_eq,Ty.hd] at ha h; omega
  | u d y=>simp only [okL,Bool.and_eq_true,Bool.or_eq_true,beq_iff_eq,Ty.hd] at ha hb h; omega
  | w d y z=>rfl
section
variable {S:Nat→Prop} {i:Nat} {σ:Nat→Option Ty} {F:Nat→Ty}
theorem Zxo (rs:Rsv V12 σ F) (hdom:∀ c u,σ c=some u→V12 c=true∧okL Zpk u=true) {v:Nat} (hv:V12 v=true) (hv0:σ v=none):∀ (M:Nat) {h:Zaa} {t:Ty} {vs:List Zad},(sb V12 F t).size≤M→Zna S h i σ→(∀ j,S j→j < h.length∧j≠i)→okL Zpk t=true→Zdk S h t vs →
  Zac pg Zca [.ptr (some (i,0)),.int .u8 (v:Int),.agg vs] h fun x h'=>x=.bool (occ v (sb V12 F t))∧Zbi h.length h h':=by
 intro M
 induction M with
 | zero=>intro h t vs hM; have:=Zlx (sb V12 F t); omega
 | succ M ih=>
 intro h t vs hM m hSi ht r
 obtain ⟨a,c,e,rfl⟩:=r.shape
 obtain ⟨n,t',hw,ht',heq⟩:=rs.walked (fun t=>okL Zpk t=true) (fun c t h=>(hdom c t h).2) ht
 have hend:=hw.end_
 have hil:=m.lt
 apply Zfg.call
 simp only [Zba]
 generalize hh0:h ++ [Zci.cells Zab [.int .u8 (t.hd:Int),.slice a t.ps.length c e] false]=h0
 have s0:Zbi h.length h h0:=by rw [← hh0]; exact Zav
 have o0:h0[h.length]?=some (.cells Zab [.int .u8 (t.hd:Int),.slice a t.ps.length c e] false):=by rw [← hh0]; simp
 have l0:h0.length=h.length + 1:=by rw [← hh0]; simp
 rw [Zdp o0]
 simp only [Zaw,Zaf,Zan,Zae,Zak]
 refine (Zns (m.same s0) (fun j hj=>⟨by have:=(hSi j hj).1; omega,(hSi j hj).2⟩) hdom ht hw (r.same s0)).mono ?_
 rintro v1 h1 ⟨s1,vs1,rfl,r1⟩
 obtain ⟨a1,c1,e1,vts,rfl,row1,hS1,hvl,hvp⟩:=r1.parts
 have o1:=s1.get o0 (Own.lt o0)
 have hl1:=s1.le
 simp only [Zdz,Zaf,Zan,Zae,Zak]
 rw [Zbj o1 (by simp)]
 simp only [Zas,putRow,List.take_zero,List.length_cons,List.length_nil,List.drop_succ_cons,List.drop_zero,List.drop_nil,List.cons_append,List.nil_append,List.append_nil,Nat.zero_add]
 generalize hh2:h1.set h.length (.cells Zab [.int .u8 (t'.hd:Int),.slice a1 t'.ps.length c1 e1] false)=h2
 have o2:h2[h.length]?=some (.cells Zab [.int .u8 (t'.hd:Int),.slice a1 t'.ps.length c1 e1] false):=by rw [← hh2]; exact Zch o1
 have l2:h2.length=h1.length:=by rw [← hh2]; simp
 have k2:∀ j,j≠h.length→h2[j]?=h1[j]?:=fun j hj=>by rw [← hh2]; exact Zbr fun e=>hj e.symm
 have S2:Zbi h.length h h2:=⟨by omega,fun j hj=>by rw [k2 j (by omega),s1.eq j (by omega)]; exact s0.eq j hj⟩
 have row2:Row h2.length h2 a1 (t'.ps.length * 2) vts.flatten:=Ylq row1 (by omega) fun j o h0 ha _=>k2 j (by have:=(hSi j (hS1 j o (by omega) ha)).1; omega)
 have hvp2:∀ (k:Nat) (w:List Zad) (x:Ty),vts[k]?=some w→t'.ps[k]?=some x→Zdk S h2 x w:=fun k w x h1' h2'=>(hvp k w x h1' h2').agree fun j hj=>k2 j (by have:=(hSi j hj).1; omega)
 simp only [Zal o2,List.getElem?_cons_zero,List.getElem?_cons_succ,Zae,Zak]
 rw [heq]
 refine Zcq (fun he=>?_) (fun hne=>?_)
 ·have hh:t'.hd=v:=by omega
  have:=Zkd ht' (by rw [hh]; exact hv)
  rw [hh] at this
  rw [this,rs.var hv0]
  exact ⟨by simp [occ],S2⟩
 ·have hne':t'.hd≠v:=fun e=>hne (by rw [e])
  have hany:occ v (sb V12 F t')=t'.ps.any fun p=>occ v (sb V12 F p):=by
   cases hv':V12 t'.hd with
   | false=>exact Zxr (.inr hv') hv F
   | true=>
    have hk:=Zkd ht' hv'
    rw [hk]
    have hno:=hend t'.hd hk
    rw [rs.var hno]
    simp [occ,Ty.ps,hne']
  rw [hany]
  refine Zfg.L5ind (J:=fun (g:Nat) x19 h'=>x19=(g:Int)∧g≤t'.ps.length∧Zbi h2.length h2 h'∧(t'.ps.take g).any (fun p=>occ v (sb V12 F p))=false) (m:=fun g=>t'.ps.length - g) (hr:=?_) (g:=0) (hj:=⟨rfl,by omega,Zbi.refl _ _,by simp⟩)
  rintro g x19 h3 ⟨rfl,hg,S3,hk⟩ R hR
  unfold Zfg.L5t
  refine Zar (fun hlt=>?_) (fun hge=>?_)
  ·have hg':g < t'.ps.length:=by omega
   obtain ⟨j,o,a2,c2,e2,rfl,hr,hkr⟩:=Zdk.get (row2.same' S3) hvl (fun k w x h1 h2=>(hvp2 k w x h1 h2).same S3) hg'
   simp only [Zao,Int.toNat_natCast,hr,Zaw,Zaf,Zan,Zae,Zak,Zba]
   rw [Zgg]
   simp only [Zas]
   rw [Ybp]
   simp only [Zaw,Zaf,Zan,Zae,Zak]
   have hm:=List.getElem_mem hg'
   have hsz:=Zlm (V:=V12) hm F
   rw [heq] at hM
   have hps2:t'.ps.length≤2:=by cases t' <;> simp [Ty.ps]
   have s4:Zbi h3.length h3 (h3 ++ [.cells Zab [.int .u8 (t'.ps[g].hd:Int),.slice a2 t'.ps[g].ps.length c2 e2] false]):=Zav
   have SS:=(S2.cat S3).cat s4
   refine ⟨by omega,(ih (by omega) (m.same SS) (fun j hj=>⟨by have:=(hSi j hj).1; have:=SS.le; omega,(hSi j hj).2⟩) (Ydo ht' _ hm) (hkr.same s4)).mono ?_⟩
   rintro x h5 ⟨rfl,s5⟩
   simp only [Zag]
   refine Zfh (fun hb=>?_) (fun hb=>?_)
   ·refine ⟨?_,SS.cat s5⟩
    have:(t'.ps.any fun p=>occ v (sb V12 F p))=true:=List.any_eq_true.2 ⟨_,hm,hb⟩
    rw [this]
   ·rw [Zby (by omega)]
    exact hR (g + 1) _ _ (by omega) ⟨rfl,by omega,(S3.cat s4).cat s5,by rw [Yfg hg',hk,hb]; rfl⟩
  ·apply Zfg.A5x0i
   have:g=t'.ps.length:=by omega
   subst this
   rw [List.take_length] at hk
   exact ⟨by rw [hk],S2.cat S3⟩
def Zlr (S:Nat→Prop) (i:Nat) (P:Ty→Prop) (σ:Nat→Option Ty) (F:Nat→Ty) (a b:Ty) (h:Zaa) (v:Zad) (h':Zaa):Prop:=
 Zeo i h h'∧((v=.bool true∧∃ σ' F',Zna S h' i σ'∧Rsv V12 σ' F'∧(∀ θ,Sol V12 σ' θ ↔ Sol V12 σ θ∧sb V12 θ a=sb V12 θ b)∧Inc Zlq V12 σ'∧(∀ c t,σ' c=some t→P (.k c)∧P t)∧((σ'=σ∧F'=F) ∨ unb Zee σ' < unb Zee σ)) ∨
  (v=.bool false∧∀ θ,Sol V12 σ θ→sb V12 θ a≠sb V12 θ b))
theorem Zlr.walk {P:Ty→Prop} (rs:Rsv V12 σ F) {a b a' b':Ty} {n n':Nat} (hw:Wlk σ n a a') (hw':Wlk σ n' b b') {h h':Zaa} {v:Zad} (u:Zlr S i P σ F a' b' h v h'):Zlr S i P σ F a b h v h':=by
 have key:∀ θ,Sol V12 σ θ→(sb V12 θ a=sb V12 θ b ↔ sb V12 θ a'=sb V12 θ b'):=fun θ hs=>by rw [hw.sbS rs hs,hw'.sbS rs hs]
 obtain ⟨K,u⟩:=u
 refine ⟨K,u.imp ?_ ?_⟩
 ·rintro ⟨e,σ',F',h1,h2,h3,h4⟩
  exact ⟨e,σ',F',h1,h2,fun θ=>(h3 θ).trans (and_congr_right fun hs=>(key θ hs).symm),h4⟩
 ·rintro ⟨e,h1⟩
  exact ⟨e,fun θ hs he=>h1 θ hs ((key θ hs).1 he)⟩
theorem Zlr.symm {P:Ty→Prop} {a b:Ty} {h h':Zaa} {v:Zad} (u:Zlr S i P σ F a b h v h'):Zlr S i P σ F b a h v h':=by
 obtain ⟨K,u⟩:=u
 refine ⟨K,u.imp ?_ ?_⟩
 ·rintro ⟨e,σ',F',h1,h2,h3,h4⟩
  exact ⟨e,σ',F',h1,h2,fun θ=>(h3 θ).trans (and_congr_right fun _=>eq_comm),h4⟩
 ·rintro ⟨e,h1⟩
  exact ⟨e,fun θ hs he=>h1 θ hs he.symm⟩
end
end Go.Sim
