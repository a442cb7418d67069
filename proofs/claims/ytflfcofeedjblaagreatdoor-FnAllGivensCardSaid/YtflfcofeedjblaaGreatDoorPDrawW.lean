/- A part of the proof of a statement of this seat: see the text that holds the theorem. No condition. -/
import Derived.Test.YtflfcofeedjblaaGreatDoorPTCSpecial
import Derived.Test.YtflfcofeedjblaaGreatDoorCGrow2
import Derived.Test.YtflfcofeedjblaaGreatDoorPTCSApply
import Derived.Test.YtflfcofeedjblaaGreatDoorPTCMatch2
import Derived.Test.YtflfcofeedjblaaGreatDoorCTy
import Derived.Test.YtflfcofeedjblaaGreatDoorCVars
import Derived.Test.YtflfcofeedjblaaGreatDoorPTCSup
set_option linter.unusedVariables false
set_option linter.unusedSimpArgs false
set_option linter.all false
set_option linter.unusedVariables false
set_option linter.unusedSimpArgs false
set_option maxRecDepth 20000
namespace Go.Sim
open Go Go.RowKit

theorem Zds.low {α:Type} {ty:TypeId} {enc:α→List Zay} {b b':Nat} {h:Zaa} {a:Pt} {n:Nat} {l:List α} (f:Zds ty enc b h a n l) (hb:b'≤b):Zds ty enc b' h a n l:=
 ⟨f.1,f.2.imp id fun ⟨i,ha,hbi,hi⟩=>⟨i,ha,by omega,hi⟩⟩
end Go.Sim

set_option linter.unusedVariables false
set_option linter.unusedSimpArgs false
set_option maxRecDepth 20000
namespace Go.Sim
open Go Go.RowKit

theorem Row.i64 {b:Nat} {h:Zaa} {a:Pt} {n:Nat} {l:List Int} (r:Row b h a n (Zdb eI l)) {k:Nat} (hk:k < n):∃ i o,∃ hk':k < l.length,a=some (i,o)∧i < b∧Zag h (.ptr (some (i,o + k * 1)))=some (.int .i64 l[k]):=by
 obtain ⟨i,o,hk',ha,hi,hc⟩:=Row.el1 Zrl r hk
 exact ⟨i,o,hk',ha,hi,hc⟩
end Go.Sim

set_option linter.unusedSimpArgs false
set_option linter.unusedVariables false
namespace Go.Sim

end Go.Sim

set_option linter.unusedVariables false
set_option linter.unusedSimpArgs false
set_option maxRecDepth 20000
namespace Go.Sim
open Go Go.RowKit

theorem Zwg.mono {S S':Nat→Prop} {h:Zaa} {i:Nat} {m:Bd} (r:Zwg S h i m) (hs:∀ j,S j→S' j):Zwg S' h i m:=by
 obtain ⟨rows,h1,h2,h3⟩:=r
 refine ⟨rows,h1,h2,fun k x hx=>?_⟩
 have:=h3 k x hx
 split at this
 ·exact this.mono hs
 ·exact this
theorem Zwg.below {S:Nat→Prop} {h:Zaa} {i:Nat} {m:Bd} (r:Zwg S h i m):Zwg (fun j=>S j∧j < h.length) h i m:=by
 obtain ⟨rows,h1,h2,h3⟩:=r
 refine ⟨rows,h1,h2,fun k x hx=>?_⟩
 have:=h3 k x hx
 split at this
 ·exact Zji.below this
 ·exact this
end Go.Sim

set_option linter.unusedVariables false
set_option linter.unusedSimpArgs false
set_option maxRecDepth 20000
namespace Go.Sim
open Go Go.RowKit

theorem Ymo {h:Zaa} {i p:Nat} (r:Rdr h i p) (hp:p≤1000000000000) (g:Bool) (Q:QT) (hQ:∀ c h',Zoj c=true→Zem i h h'→Rdr h' i (p + 1)→Q (.str [c]) h') :
  bcase g (Zcf (h ++ [.cells Zbi [.str [105],.str [98],.str [105],.str [117]] false]) fun h_0=>Zak pg Zck [.ptr (some (i,0)),.slice (some (List.length h,0)) 4 4 true] h_0 fun v_1 h_2=>
 Zbd (some v_1) fun s_3=>Q (.str s_3) h_2) (Zcf (h ++ [.cells Zbi [.str [120],.str [105],.str [121],.str [98],.str [120],.str [122],.str [117]] false]) fun h_4=>Zak pg Zck [.ptr (some (i,0)),.slice (some (List.length h,0)) 7 7 true] h_4 fun v_5 h_6=>
 Zbd (some v_5) fun s_7=>Q (.str s_7) h_6):=by
 have hil:=r.lt
 have go:∀ (l:List (List Nat)) (n:Nat),l.length=n→1≤n→(∀ x∈l,∃ c,x=[c]∧Zoj c=true)→Zcf (h ++ [.cells Zbi (Zdb eS l) false]) fun h_0=>Zak pg Zck [.ptr (some (i,0)),.slice (some (List.length h,0)) n n true] h_0 fun v_1 h_2=>Zbd (some v_1) fun s_3=>Q (.str s_3) h_2:=by
  intro l n hn h1 hl
  simp only [Zaw]
  refine (Zno (r.app _) hp (j:=h.length) (t:=Zbi) (l:=l) (by simp) (by omega) hn h1).mono ?_
  rintro v h2 ⟨x,hx,rfl,hK,hR,_⟩
  obtain ⟨c,rfl,hc⟩:=hl x hx
  simp only [Zah]
  exact hQ c h2 hc ((Zem.app i h _).trans hK) hR
 cases g with
 | true=>exact go [[105],[98],[105],[117]] 4 rfl (by omega) (by intro x hx; simp at hx; rcases hx with rfl | rfl | rfl | rfl <;> exact ⟨_,rfl,rfl⟩)
 | false=>exact go [[120],[105],[121],[98],[120],[122],[117]] 7 rfl (by omega) (by intro x hx; simp at hx; rcases hx with rfl | rfl | rfl | rfl | rfl | rfl | rfl <;> exact ⟨_,rfl,rfl⟩)
def DrQ (i p d:Nat) (h:Zaa) (v:Zay) (h':Zaa):Prop:=∃ t:Ty,v=.str t.txt∧t.ok=true∧t.txt.length≤4 ^ (d + 1)∧Zem i h h'∧∃ p',p≤p'∧p'≤p + 4 ^ (d + 1)∧Rdr h' i p'
theorem Zxl:∀ (d:Nat),d≤8→∀ {h:Zaa} {i p:Nat},Rdr h i p→p + 4 ^ (d + 1)≤1000000000000→∀ (g:Bool),Zak pg Zfx [.ptr (some (i,0)),.int .i64 (d:Int),.bool g] h (DrQ i p d h):=by
 intro d
 induction d with
 | zero=>
  intro _ h i p r hp g
  apply Zow.call
  refine Zcw (fun _=>?_) (fun hne=>absurd rfl hne)
  exact Ymo r (by omega) g (DrQ i p 0 h) fun c h' hc hK hR=>⟨.k c,rfl,by simpa [Ty.ok] using hc,by simp [Ty.txt],hK,p + 1,by omega,by omega,hR⟩
 | succ d ih=>
  intro hd h i p r hp g
  have hB:4 ^ (d + 1 + 1)=4 * 4 ^ (d + 1):=by rw [Nat.pow_succ]; omega
  have hB1:4≤4 ^ (d + 1):=by rw [Nat.pow_succ]; have:=Nat.one_le_two_pow (n:=0); have:1≤4 ^ d:=Nat.one_le_pow _ _ (by omega); omega
  have hB2:4 ^ (d + 1)≤1000000000000:=by omega
  generalize hBB:4 ^ (d + 1)=B at *
  apply Zow.call
  refine Zcw (fun he=>by omega) (fun _=>?_)
  refine (Zdd r (by omega) 3).mono ?_
  rintro v h1 ⟨x,rfl,hx0,hx1,_,K1,R1,_⟩
  simp only [Zax]
  refine Zcw (fun _=>?_) (fun _=>?_)
  ·exact Ymo R1 (by omega) g (DrQ i p (d + 1) h) fun c h' hc hK hR=>⟨.k c,rfl,by simpa [Ty.ok] using hc,by rw [hB]; simp [Ty.txt]; omega,K1.trans hK,p + 1 + 1,by omega,by omega,hR⟩
  ·apply Zow.J5i
   refine (Zdd R1 (by omega) 4).mono ?_
   rintro v h2 ⟨x,rfl,hx0,hx1,_,K2,R2,_⟩
   have hw:IntKind.wrap .i64 (((d + 1:Nat):Int) - 1)=(d:Int):=by rw [IntWalk.i64_in _ (by omega)]; omega
   have K12:=K1.trans K2
   simp only [Zax]
   rw [hw]
   have one:∀ (c:Nat),(c=109 ∨ c=108)→Zak pg Zfx [.ptr (some (i,0)),.int .i64 (d:Int),.bool g] h2 fun v_28 h_29=>
     Zbd (some v_28) fun s_30=>List.length ([c,40]) + List.length s_30≤9223372036854775807∧(List.length (([c,40]) ++ s_30) + List.length [41]≤9223372036854775807∧(DrQ i p (d + 1) h (.str ((([c,40]) ++ s_30) ++ [41])) h_29)):=by
    intro c hc
    refine (ih (by omega) R2 (by omega) g).mono ?_
    rintro v h3 ⟨t,rfl,hok,hlen,K3,p3,hp1,hp2,R3⟩
    rw [hBB] at hlen hp2
    simp only [Zah]
    refine ⟨by simp; omega,by simp; omega,.u c t,by simp [Ty.txt],?_,?_,K12.trans K3,p3,by omega,by omega,R3⟩
    ·simp only [Ty.ok,hok,Bool.and_true]; rcases hc with rfl | rfl <;> rfl
    ·rw [hB]; simp [Ty.txt]; omega
   refine Zcw (fun _=>?_) (fun _=>Zcw (fun _=>one 109 (.inl rfl)) (fun _=>one 108 (.inr rfl)))
   refine (ih (by omega) R2 (by omega) g).mono ?_
   rintro v h3 ⟨t,rfl,hok,hlen,K3,p3,hp1,hp2,R3⟩
   rw [hBB] at hlen hp2
   simp only [Zah]
   refine ⟨by simp; omega,by simp; omega,?_⟩
   refine (ih (by omega) R3 (by omega) g).mono ?_
   rintro v h4 ⟨t2,rfl,hok2,hlen2,K4,p4,hp3,hp4,R4⟩
   rw [hBB] at hlen2 hp4
   simp only [Zah]
   refine ⟨by simp; omega,by simp; omega,.w 112 t t2,by simp [Ty.txt],by simp [Ty.ok,hok,hok2],?_,(K12.trans K3).trans K4,p4,by omega,by omega,R4⟩
   rw [hB]; simp [Ty.txt]; omega
theorem Yjj (s:List Nat) (a b:Int):(sub s a b).length≤s.length:=by unfold sub; simp; omega
end Go.Sim

set_option linter.unusedVariables false
set_option linter.unusedSimpArgs false
set_option maxRecDepth 20000
namespace Go.Sim
open Go Go.RowKit

end Go.Sim

set_option linter.unusedSimpArgs false
set_option linter.unusedVariables false
namespace Go.Sim

def Up (cs:List Nd) (a b:Nat):Prop:=∃ i,∃ h:i < cs.length,cs[i].1=[a]∧b∈cs[i].2
inductive Rch (cs:List Nd) (a:Nat):Nat→Prop
 | one {b:Nat}:Up cs a b→Rch cs a b
 | more {b c:Nat}:Rch cs a b→Up cs b c→Rch cs a c
open Classical in
noncomputable def Ype (cs:List Nd) (a:Nat):List Nat:=(List.range' 65 20).filter fun d=>decide (Rch cs a d)

theorem Yfd {cs:List Nd} (h:Zir cs=true) {i:Nat} (hi:i < cs.length):Ydf cs i=true:=by
 unfold Zir at h
 simp only [Bool.and_eq_true,List.all_eq_true] at h
 exact h.1 i (List.mem_range.2 hi)
theorem Zqp {cs:List Nd} (h:Zir cs=true) {i:Nat} (hi:i < cs.length):∃ d,cs[i].1=[d]∧65≤d∧d≤84:=by
 have:=Yfd h hi
 unfold Ydf at this
 rw [Zgi hi] at this
 simp only [Bool.and_eq_true] at this
 have h1:=this.1.1
 unfold Zwv at h1
 split at h1
 ·rename_i d hd; exact ⟨d,hd,by simpa using h1⟩
 ·cases h1
theorem Yhr {cs:List Nd} (h:Zir cs=true) {i:Nat} (hi:i + 1 < cs.length) {a b:Nat} (ha:cs[i].1=[a]) (hb:cs[i + 1].1=[b]):a < b:=by
 have:=Yfd h hi
 unfold Ydf at this
 rw [Zgi hi,Nat.add_sub_cancel,Zgi (by omega),ha,hb] at this
 simp only [Bool.and_eq_true] at this
 have h1:=this.1.2
 simpa [Zfp] using h1
theorem Zzv {cs:List Nd} (h:Zir cs=true):∀ (k i:Nat) (hi:i + k + 1 < cs.length) {a b:Nat},cs[i].1=[a]→cs[i + k + 1].1=[b]→a < b
 | 0,i,hi,a,b,ha,hb=>Yhr h hi ha hb
 | k + 1,i,hi,a,b,ha,hb=>by
  obtain ⟨d,hd,_⟩:=Zqp h (show i + k + 1 < cs.length by omega)
  have h1:=Zzv h k i (by omega) ha hd
  have h2:=Yhr h (i:=i + k + 1) (by omega) hd hb
  omega
theorem Ybj {cs:List Nd} (h:Zir cs=true) {i j:Nat} (hi:i < cs.length) (hj:j < cs.length) {a:Nat} (ha:cs[i].1=[a]) (hb:cs[j].1=[a]):i=j:=by
 rcases Nat.lt_trichotomy i j with hl | he | hl
 ·obtain ⟨k,rfl⟩:∃ k,j=i + k + 1:=⟨j - i - 1,by omega⟩
  have:=Zzv h k i hj ha hb; omega
 ·exact he
 ·obtain ⟨k,rfl⟩:∃ k,i=j + k + 1:=⟨i - j - 1,by omega⟩
  have:=Zzv h k j hi hb ha; omega
theorem Ztu {cs:List Nd} (h:Zir cs=true) {i:Nat} (hi:i < cs.length) {b:Nat} (hb:b∈cs[i].2):∃ j,∃ hj:j < i,cs[j].1=[b]:=by
 have:=Yfd h hi
 unfold Ydf at this
 rw [Zgi hi] at this
 simp only [Bool.and_eq_true] at this
 have h1:=this.2
 unfold Yhj at h1
 rw [List.all_eq_true] at h1
 obtain ⟨k,hk,rfl⟩:=List.mem_iff_getElem.1 hb
 have h2:=h1 k (List.mem_range.2 hk)
 unfold Ycy at h2
 rw [Zgi hk] at h2
 simp only [Bool.and_eq_true] at h2
 have h3:=h2.1
 unfold Zgg at h3
 rw [List.any_eq_true] at h3
 obtain ⟨x,hx,he⟩:=h3
 obtain ⟨j,hj,rfl⟩:=List.mem_iff_getElem.1 hx
 rw [List.length_take] at hj
 exact ⟨j,by omega,by simpa using he⟩
theorem Up.ix {cs:List Nd} (h:Zir cs=true) {a b i:Nat} (u:Up cs a b) (hi:i < cs.length) (ha:cs[i].1=[a]):b∈cs[i].2:=by
 obtain ⟨j,hj,hja,hb⟩:=u
 have:=Ybj h hi hj ha hja
 subst this; exact hb
theorem Rch.ix {cs:List Nd} (h:Zir cs=true) {a b i:Nat} (r:Rch cs a b) (hi:i < cs.length) (ha:cs[i].1=[a]):∃ j,∃ hj:j < i,cs[j].1=[b]:=by
 induction r with
 | one u=>exact Ztu h hi (u.ix h hi ha)
 | more _ u ih=>
  obtain ⟨j,hj,hb⟩:=ih
  obtain ⟨k,hk,hc⟩:=Ztu h (show j < cs.length by omega) (u.ix h (by omega) hb)
  exact ⟨k,by omega,hc⟩
theorem Ycq:∀ {l m:List Nat},l.Pairwise (· < ·)→m.Pairwise (· < ·)→(∀ x,x∈l ↔ x∈m)→l=m
 | [],[],_,_,_=>rfl
 | [],y :: m,_,_,h=>by have:=(h y).2 (by simp); simp at this
 | x :: l,[],_,_,h=>by have:=(h x).1 (by simp); simp at this
 | x :: l,y :: m,hl,hm,h=>by
  have hl':=List.pairwise_cons.1 hl
  have hm':=List.pairwise_cons.1 hm
  have hxy:x=y:=by
   have h1:=(h x).1 (by simp)
   have h2:=(h y).2 (by simp)
   rcases List.mem_cons.1 h1 with e | h1
   ·exact e
   ·rcases List.mem_cons.1 h2 with e | h2
    ·exact e.symm
    ·have:=hm'.1 x h1; have:=hl'.1 y h2; omega
  subst hxy
  congr 1
  refine Ycq hl'.2 hm'.2 fun z=>?_
  constructor
  ·intro hz
   have h1:=(h z).1 (by simp [hz])
   rcases List.mem_cons.1 h1 with e | h1
   ·subst e; have:=hl'.1 z hz; omega
   ·exact h1
  ·intro hz
   have h1:=(h z).2 (by simp [hz])
   rcases List.mem_cons.1 h1 with e | h1
   ·subst e; have:=hm'.1 z hz; omega
   ·exact h1
theorem Ycc (cs:List Nd) (a:Nat):(Ype cs a).Pairwise (· < ·):=by
 unfold Ype
 exact List.Pairwise.filter _ (by decide)
theorem Yfa {cs:List Nd} (h:Zir cs=true) {i a:Nat} (hi:i < cs.length) (ha:cs[i].1=[a]) (d:Nat):d∈Ype cs a ↔ Rch cs a d:=by
 unfold Ype
 rw [List.mem_filter]
 constructor
 ·rintro ⟨_,h2⟩; simpa using h2
 ·intro r
  refine ⟨?_,by simpa using r⟩
  obtain ⟨j,hj,hd⟩:=r.ix h hi ha
  obtain ⟨e,he,h1,h2⟩:=Zqp h (show j < cs.length by omega)
  rw [hd] at he
  cases he
  rw [List.mem_range']
  exact ⟨d - 65,by omega,by omega⟩
structure Zyd (cs:List Nd) (a:Nat) (i:Nat) (ab:List Nat):Prop where
 sound:∀ d∈ab,Rch cs a d
 done:∀ j,i≤j→∀ hj:j < cs.length,(cs[j].1=[a] ∨ ∃ d,cs[j].1=[d]∧d∈ab)→∀ b∈cs[j].2,b∈ab
theorem Zyd.start {cs:List Nd} {a:Nat}:Zyd cs a cs.length []:=⟨by simp,fun j h1 h2=>by omega⟩
theorem Zyd.step {cs:List Nd} (h:Zir cs=true) {a i:Nat} {ab:List Nat} (D:Zyd cs a (i + 1) ab) (hi:i < cs.length) (hc:cs[i].1=[a] ∨ ∃ d,cs[i].1=[d]∧d∈ab):Zyd cs a i (ab ++ cs[i].2):=by
 refine ⟨fun d hd=>?_,fun j hj hjl hcj b hb=>?_⟩
 ·rcases List.mem_append.1 hd with hd | hd
  ·exact D.sound d hd
  ·rcases hc with hc | ⟨e,he,hm⟩
   ·exact .one ⟨i,hi,hc,hd⟩
   ·exact .more (D.sound e hm) ⟨i,hi,he,hd⟩
 ·by_cases hji:j=i
  ·subst hji; exact List.mem_append_right _ hb
  ·refine List.mem_append_left _ (D.done j (by omega) hjl ?_ b hb)
   rcases hcj with hcj | ⟨e,he,hm⟩
   ·exact .inl hcj
   ·rcases List.mem_append.1 hm with hm | hm
    ·exact .inr ⟨e,he,hm⟩
    ·exfalso
     obtain ⟨k,hk,hke⟩:=Ztu h hi hm
     have:=Ybj h hjl (show k < cs.length by omega) he hke
     omega
theorem Zyd.skip {cs:List Nd} {a i:Nat} {ab:List Nat} (D:Zyd cs a (i + 1) ab) (hc:∀ hi:i < cs.length,¬ (cs[i].1=[a] ∨ ∃ d,cs[i].1=[d]∧d∈ab)):Zyd cs a i ab:=
 ⟨D.sound,fun j hj hjl hcj b hb=>by
  by_cases hji:j=i
  ·subst hji; exact absurd hcj (hc hjl)
  ·exact D.done j (by omega) hjl hcj b hb⟩
theorem Zyd.all {cs:List Nd} (h:Zir cs=true) {a i:Nat} {ab:List Nat} (D:Zyd cs a 0 ab) (hi:i < cs.length) (ha:cs[i].1=[a]) (d:Nat):d∈ab ↔ Rch cs a d:=by
 refine ⟨D.sound d,fun r=>?_⟩
 induction r with
 | one u=>exact D.done i (by omega) hi (.inl ha) _ (u.ix h hi ha)
 | more r u ih=>
  obtain ⟨j,hj,hb⟩:=r.ix h hi ha
  exact D.done j (by omega) (by omega) (.inr ⟨_,hb,ih⟩) _ (u.ix h (by omega) hb)
structure Yvy (cs:List Nd) (a i:Nat) (r:Nat) (ab:List Nat):Prop where
 sound:∀ d∈ab,Rch cs a d
 first:∀ d,Up cs a d→d∈ab
 near:∀ j,j < i→i≤j + 1 + r→∀ hj:j < cs.length,∀ d,cs[j].1=[d]→Rch cs a d→d∈ab
theorem Yvy.start {cs:List Nd} (h:Zir cs=true) {a i:Nat} (hi:i < cs.length) (ha:cs[i].1=[a]):Yvy cs a i 0 cs[i].2:=by
 refine ⟨fun d hd=>.one ⟨i,hi,ha,hd⟩,fun d u=>u.ix h hi ha,fun j hj hn hjl d hd r=>?_⟩
 cases r with
 | one u=>exact u.ix h hi ha
 | more r u=>
  obtain ⟨k,hk,hb⟩:=r.ix h hi ha
  obtain ⟨q,hq,hc⟩:=Ztu h (show k < cs.length by omega) (u.ix h (by omega) hb)
  have:=Ybj h hjl (show q < cs.length by omega) hd hc
  omega
theorem Yvy.next {cs:List Nd} (h:Zir cs=true) {a i r:Nat} {ab ab':List Nat} (R:Yvy cs a i r ab) (hi:i < cs.length) (ha:cs[i].1=[a])
  (hs:∀ d∈ab',d∈ab ∨ ∃ e∈ab,Up cs e d) (hc:∀ d,(d∈ab ∨ ∃ e∈ab,Up cs e d)→d∈ab'):Yvy cs a i (r + 1) ab':=by
 refine ⟨fun d hd=>?_,fun d u=>hc d (.inl (R.first d u)),fun j hj hn hjl d hd rc=>?_⟩
 ·rcases hs d hd with hd | ⟨e,he,u⟩
  ·exact R.sound d hd
  ·exact .more (R.sound e he) u
 ·cases rc with
  | one u=>exact hc d (.inl (R.first d u))
  | more rc u=>
   rename_i e
   obtain ⟨k,hk,hb⟩:=rc.ix h hi ha
   have hjk:j < k:=by
    obtain ⟨q,hq,hcq⟩:=Ztu h (show k < cs.length by omega) (u.ix h (by omega) hb)
    have:=Ybj h hjl (show q < cs.length by omega) hd hcq
    omega
   exact hc d (.inr ⟨e,R.near k hk (by omega) (by omega) e hb rc,u⟩)
theorem Yvy.all {cs:List Nd} (h:Zir cs=true) {a i r:Nat} {ab:List Nat} (R:Yvy cs a i r ab) (hi:i < cs.length) (ha:cs[i].1=[a]) (hr:i≤r + 1) (d:Nat):d∈ab ↔ Rch cs a d:=by
 refine ⟨R.sound d,fun rc=>?_⟩
 obtain ⟨j,hj,hd⟩:=rc.ix h hi ha
 exact R.near j hj (by omega) (by omega) d hd rc
end Go.Sim

set_option linter.unusedVariables false
set_option linter.unusedSimpArgs false
set_option maxRecDepth 20000
namespace Go.Sim
open Go Go.RowKit

theorem Yiz {h:Zaa} {a0 a1:Pt} {n0 c0 n1 c1:Nat} {e0 e1:Bool} {w:Wd} {s:List Nat} (r:Zkr h a0 n0 c0 a1 n1 c1 w) (b:WB w) :
  Zak pg Zqe [.agg [.slice a0 n0 c0 e0,.slice a1 n1 c1 e1],.str s] h fun v h'=>v=.bool (Zda w && Zgg w.cs s)∧Zbc h.length h h':=by
 have hl0:=r.len0
 have hlc:=b.lc
 apply Zud.call
 simp only [Zaw]
 generalize hh0:h ++ [Zcb.cells Zac [.slice a0 n0 c0 e0,.slice a1 n1 c1 e1] false]=h0
 have s0:Zbc h.length h h0:=by rw [← hh0]; exact Zal
 have w0:h0[h.length]?=some (Zlu a0 n0 c0 e0 a1 n1 c1 e1):=by rw [← hh0]; simp [Zlu]
 rw [Zth w0]
 simp only [Zao,Zae,Zam,Zaj]
 refine (Zsu (r.same s0) b).mono ?_
 rintro v h2 ⟨rfl,s2⟩
 have w2:=s2.get w0 (Own.lt w0)
 simp only [Zaq]
 refine Zdi (fun b1=>?_) (fun b1=>⟨by rw [b1]; rfl,s0.cat s2⟩)
 simp only [Zrb w2,Nat.zero_add,List.getElem?_cons_zero,Zaj]
 refine (Zwm (r.cls.same' (s0.cat s2)) (by omega)).mono ?_
 rintro v h3 ⟨rfl,s3⟩
 simp only [Zaq]
 exact ⟨by rw [b1]; rfl,(s0.cat s2).cat s3⟩
theorem Ygn {h:Zaa} {a0 a1:Pt} {n0 c0 n1 c1:Nat} {e0 e1:Bool} {w:Wd} {s:List Nat} (r:Zkr h a0 n0 c0 a1 n1 c1 w) (b:WB w) :
  Zak pg Zpp [.agg [.slice a0 n0 c0 e0,.slice a1 n1 c1 e1],.str s] h fun v h'=>v=.bool (Zda w && Zgg w.cs s)∧Zbc h.length h h':=by
 have hl0:=r.len0
 have hlc:=b.lc
 apply Ztp.call
 simp only [Zaw]
 generalize hh0:h ++ [Zcb.cells Zac [.slice a0 n0 c0 e0,.slice a1 n1 c1 e1] false]=h0
 have s0:Zbc h.length h h0:=by rw [← hh0]; exact Zal
 have w0:h0[h.length]?=some (Zlu a0 n0 c0 e0 a1 n1 c1 e1):=by rw [← hh0]; simp [Zlu]
 rw [Zth w0]
 simp only [Zao,Zae,Zam,Zaj]
 refine (Zkv (r.same s0) b).mono ?_
 rintro v h2 ⟨rfl,s2⟩
 have w2:=s2.get w0 (Own.lt w0)
 simp only [Zaq]
 refine Zdi (fun b1=>?_) (fun b1=>⟨by rw [b1]; rfl,s0.cat s2⟩)
 rw [Zth w2]
 simp only [Zao,Zae,Zam,Zaj]
 refine (Znm (r.cls.same' (s0.cat s2)) (by omega)).mono ?_
 rintro v h3 ⟨rfl,s3⟩
 simp only [Zax,Ygo]
 exact ⟨by rw [b1]; rfl,(s0.cat s2).cat s3⟩
noncomputable def Zjf (w:Wd) (s:List Nat):List Nat:=if Zda w && Zgg w.cs s then Ype w.cs (s.headD 0) else []
theorem Zvy {w:Wd} (h:Zda w=true):Zir w.cs=true:=by
 unfold Zda at h; simp only [Bool.and_eq_true] at h; exact h.1.1
theorem Yfn {cs:List Nd} (h:Zir cs=true) {s:List Nat} (k:Zgg cs s=true):∃ i,∃ hi:i < cs.length,∃ a,s=[a]∧cs[i].1=[a]:=by
 unfold Zgg at k
 rw [List.any_eq_true] at k
 obtain ⟨x,hx,he⟩:=k
 obtain ⟨i,hi,rfl⟩:=List.mem_iff_getElem.1 hx
 obtain ⟨d,hd,_⟩:=Zqp h hi
 exact ⟨i,hi,d,by rw [← hd]; exact (by simpa using he:cs[i].1=s).symm,hd⟩
def Ytf (cs:List Nd):List Nat:=cs.map fun p=>p.1.headD 0
theorem Ykc {cs:List Nd} (h:Zir cs=true):(Ytf cs).Pairwise (· < ·):=by
 rw [List.pairwise_iff_getElem]
 intro i j hi hj hij
 simp only [Ytf,List.length_map] at hi hj
 obtain ⟨a,ha,_⟩:=Zqp h hi
 obtain ⟨b,hb,_⟩:=Zqp h hj
 simp only [Ytf,List.getElem_map,ha,hb,List.headD_cons]
 obtain ⟨k,rfl⟩:∃ k,j=i + k + 1:=⟨j - i - 1,by omega⟩
 exact Zzv h k i hj ha hb
theorem Yub {cs:List Nd} (h:Zir cs=true) {i a:Nat} (hi:i < cs.length) (ha:cs[i].1=[a]) {ab:List Nat} (hab:∀ d,d∈ab ↔ Rch cs a d):(Ytf cs).filter (fun d=>decide (d∈ab))=Ype cs a:=by
 refine Ycq ((Ykc h).filter _) (Ycc cs a) fun x=>?_
 rw [Yfa h hi ha,List.mem_filter]
 constructor
 ·rintro ⟨_,h2⟩; exact (hab x).1 (by simpa using h2)
 ·intro r
  obtain ⟨j,hj,hd⟩:=r.ix h hi ha
  refine ⟨?_,by simpa using (hab x).2 r⟩
  unfold Ytf
  rw [List.mem_map]
  exact ⟨cs[j],List.getElem_mem (by omega),by rw [hd]; rfl⟩
theorem Yjf {h:Zaa} {a0 a1:Pt} {n0 c0 n1 c1:Nat} {e0 e1:Bool} {w:Wd} {s:List Nat} (r:Zkr h a0 n0 c0 a1 n1 c1 w) (b:WB w) :
  Zak pg Zpj [.agg [.slice a0 n0 c0 e0,.slice a1 n1 c1 e1],.str s] h fun v h'=>v=.str (Zjf w s)∧Zbc h.length h h':=by
 have hl0:=r.len0
 have hlc:=b.lc
 apply Zel.call
 simp only [Zaw]
 generalize hh0:h ++ [Zcb.cells Zac [.slice a0 n0 c0 e0,.slice a1 n1 c1 e1] false]=h0
 have s0:Zbc h.length h h0:=by rw [← hh0]; exact Zal
 have w0:h0[h.length]?=some (Zlu a0 n0 c0 e0 a1 n1 c1 e1):=by rw [← hh0]; simp [Zlu]
 rw [Zth w0]
 simp only [Zao,Zae,Zam,Zaj]
 refine (Yiz (r.same s0) b).mono ?_
 rintro v h2 ⟨rfl,s2⟩
 have S2:=s0.cat s2
 have w2:=s2.get w0 (Own.lt w0)
 simp only [Zaq]
 refine Zbs (fun b1=>⟨by unfold Zjf; rw [b1]; rfl,S2⟩) (fun b1=>?_)
 simp only [Bool.and_eq_true] at b1
 have hc:=Zvy b1.1
 obtain ⟨i,hi,a,rfl,ha⟩:=Yfn hc b1.2
 have hsw:Zjf w [a]=Ype w.cs a:=by unfold Zjf; rw [b1.1,b1.2]; rfl
 rw [hsw]
 simp only [Zrb w2,Nat.zero_add,List.getElem?_cons_zero,Zaj]
 rw [IntWalk.i64_in _ (by omega)]
 refine Zel.L5ind _ _ _ _ (J:=fun (g:Nat) x5 x6 h'=>x6=(g:Int) - 1∧g≤n0∧Zbc h2.length h2 h'∧Zyd w.cs a g x5∧x5.length≤(n0 - g) * 1048576) (fun g=>g) ?_ n0 _ _ _ ⟨rfl,by omega,Zbc.refl _ _,by rw [← hl0]; exact Zyd.start,by simp⟩
 rintro g x5 x6 h' ⟨rfl,hg,hS,hD,hlen⟩ R hR
 have w3:=hS.get w2 (Own.lt w2)
 have S3:=S2.cat hS
 unfold Zel.L5t
 refine Zar (fun hge=>?_) (fun hlt=>?_)
 ·obtain ⟨g,rfl⟩:∃ q,g=q + 1:=⟨g - 1,by omega⟩
  have e1:(((g + 1:Nat):Int) - 1)=(g:Int):=by omega
  rw [e1]
  obtain ⟨i',o',hgl,rfl,_,hr,_⟩:=(r.cls.same' S3).pr (k:=g) (by omega)
  simp only [Nat.zero_add,Zrb w3,List.getElem?_cons_zero,Zaj,Zau,Int.toNat_natCast,hr,Zao,Zae,Zam,Zah,Zaw]
  rw [Zfb]
  simp only [Zas]
  generalize hq:h' ++ [Zcb.cells Zbj [.str w.cs[g].1,.str w.cs[g].2] false]=hq'
  have sq:Zbc h'.length h' hq':=by rw [← hq]; exact Zal
  have iq:hq'[h'.length]?=some (.cells Zbj [.str w.cs[g].1,.str w.cs[g].2] false):=by rw [← hq]; simp
  simp only [Zan iq,List.getElem?_cons_zero,List.getElem?_cons_succ,Zah]
  have hbl:=(b.cs _ (List.getElem_mem hgl)).2.1
  have hmul:(n0 - (g + 1)) * 1048576 + 1048576=(n0 - g) * 1048576:=by rw [show n0 - g=(n0 - (g + 1)) + 1 by omega,Nat.succ_mul]
  have hcap:(n0 - g) * 1048576≤1048576 * 1048576:=Nat.mul_le_mul_right _ (by omega)
  obtain ⟨d,hd,_⟩:=Zqp hc hgl
  have fin:∀ hx y,Zbc hq'.length hq' hx→Zyd w.cs a g y→y.length≤(n0 - g) * 1048576→Zel.J6 (fun v h'=>v=.str (Ype w.cs a)∧Zbc h.length h h') R (g:Int) h.length 0 [a] y hx:=fun hx y sx hy hyl=>by
   apply Zel.J6i
   rw [IntWalk.i64_in _ (by omega)]
   exact hR g _ _ _ (by omega) ⟨rfl,by omega,(hS.cat sq).cat sx,hy,hyl⟩
  refine ⟨by omega,Zar (fun he=>?_) (fun he=>?_)⟩
  ·refine ⟨by omega,fin _ _ (Zbc.refl _ _) (hD.step hc hgl (.inl he)) (by rw [List.length_append]; omega)⟩
  ·rw [hd]
   refine Zlw.mono ?_
   rintro v h5 ⟨rfl,rfl⟩
   simp only [Zaq]
   refine Zar (fun hm=>?_) (fun hm=>?_)
   ·simp only [Zan iq,List.getElem?_cons_zero,List.getElem?_cons_succ,Zah]
    refine ⟨by omega,fin _ _ (Zbc.refl _ _) (hD.step hc hgl (.inr ⟨d,hd,hm⟩)) (by rw [List.length_append]; omega)⟩
   ·refine fin _ _ (Zbc.refl _ _) (hD.skip fun _ hx=>?_) (Nat.le_trans hlen (by rw [← hmul]; exact Nat.le_add_right _ _))
    rcases hx with hx | ⟨e,hx,hme⟩
    ·exact he hx
    ·rw [hd] at hx; cases hx; exact hm hme
 ·apply Zel.A5x0i
  have:g=0:=by omega
  subst this
  simp only [Nat.zero_add,Zrb w3,List.getElem?_cons_zero,Zaj]
  have hab:=hD.all hc hi ha
  rw [← Yub hc hi ha hab]
  refine Zel.L12ind _ _ _ _ _ _ _ (J:=fun (q:Nat) x8 x45 h3=>x45=(q:Int)∧q≤n0∧Zbc h'.length h' h3∧x8=(Ytf (w.cs.take q)).filter fun d=>decide (d∈x5)) (fun q=>n0 - q) ?_ 0 _ _ _ ⟨rfl,by omega,Zbc.refl _ _,rfl⟩
  rintro q x8 x45 h3 ⟨rfl,hq0,hS3,rfl⟩ R12 hR12
  unfold Zel.L12t
  have S4:=S3.cat hS3
  refine Zar (fun hlt3=>?_) (fun hge3=>?_)
  ·obtain ⟨i',o',hql,rfl,_,hr,_⟩:=(r.cls.same' S4).pr (k:=q) (by omega)
   simp only [Zau,Int.toNat_natCast,hr,Zao,Zae,Zam,Zah,Zaw]
   rw [Zfb]
   simp only [Zas]
   generalize hq:h3 ++ [Zcb.cells Zbj [.str w.cs[q].1,.str w.cs[q].2] false]=hq'
   have sq:Zbc h3.length h3 hq':=by rw [← hq]; exact Zal
   have iq:hq'[h3.length]?=some (.cells Zbj [.str w.cs[q].1,.str w.cs[q].2] false):=by rw [← hq]; simp
   simp only [Zan iq,Nat.add_zero,Nat.zero_add,List.getElem?_cons_zero,List.getElem?_cons_succ,Zah]
   obtain ⟨d,hd,_⟩:=Zqp hc hql
   rw [hd]
   refine ⟨by omega,Zlw.mono ?_⟩
   rintro v h5 ⟨rfl,rfl⟩
   simp only [Zaq]
   have htk:Ytf (w.cs.take (q + 1))=Ytf (w.cs.take q) ++ [d]:=by
    unfold Ytf; rw [List.take_succ_eq_append_getElem hql,List.map_append]; simp [hd]
   have hln:((Ytf (w.cs.take q)).filter fun d=>decide (d∈x5)).length≤1048576:=by
    refine Nat.le_trans (List.length_filter_le _ _) ?_
    simp [Ytf]; omega
   refine Zar (fun hm=>?_) (fun hm=>?_)
   ·simp only [Zan iq,Nat.add_zero,Nat.zero_add,List.getElem?_cons_zero,Zah,hd]
    refine ⟨by simp only [List.length_cons,List.length_nil]; omega,?_⟩
    apply Zel.J16i
    rw [Zbm (by omega)]
    exact hR12 (q + 1) _ _ _ (by omega) ⟨rfl,by omega,hS3.cat sq,by rw [htk,List.filter_append]; simp [hm]⟩
   ·apply Zel.J16i
    rw [Zbm (by omega)]
    exact hR12 (q + 1) _ _ _ (by omega) ⟨rfl,by omega,hS3.cat sq,by rw [htk,List.filter_append]; simp [hm]⟩
  ·apply Zel.A12x2i
   have:q=n0:=by omega
   subst this
   rw [List.take_of_length_le (by omega)]
   exact ⟨rfl,S4⟩
end Go.Sim

set_option linter.unusedVariables false
set_option linter.unusedSimpArgs false
set_option maxRecDepth 20000
namespace Go.Sim
open Go Go.RowKit

def Ysh (s:List Nat):List Nat:=(List.range' 65 20).filter fun d=>decide (d∈s)
theorem Yef (g:Nat):List.range' 65 (g + 1)=List.range' 65 g ++ [65 + g]:=by rw [List.range'_1_concat]
theorem Ykd {h:Zaa} (s:List Nat) (hs:s.length≤4611686018427387904):Zak pg Zqc [.str s] h fun v h'=>v=.str (Ysh s)∧Zbc h.length h h':=by
 apply Zhg.call
 refine Zhg.L3ind _ _ (J:=fun (g:Nat) x3 x4 h'=>x4=65 + (g:Int)∧g≤20∧Zbc h.length h h'∧x3=(List.range' 65 g).filter fun d=>decide (d∈s)) (fun g=>20 - g) ?_ 0 _ _ _ ⟨rfl,by omega,Zbc.refl _ _,rfl⟩
 rintro g x3 x4 h' ⟨rfl,hg,hS,rfl⟩ R hR
 unfold Zhg.L3t
 have hln:((List.range' 65 g).filter fun d=>decide (d∈s)).length≤20:=Nat.le_trans (List.length_filter_le _ _) (by simp; omega)
 refine Zar (fun hlt=>?_) (fun hge=>?_)
 ·have hg':g < 20:=by omega
  have e1:IntKind.wrap .u8 (65 + (g:Int))=((65 + g:Nat):Int):=by rw [IntWalk.u8_in _ (by omega)]; omega
  have e2:IntKind.wrap .i32 (65 + (g:Int) + 1)=65 + ((g + 1:Nat):Int):=by rw [IntWalk.i32_in _ (by omega)]; omega
  rw [e1]
  refine (Yaj s (65 + g) (by omega)).mono ?_
  rintro v h2 ⟨rfl,rfl⟩
  simp only [Zax]
  have hm:=Zzu s (65 + g)
  refine Zar (fun hb=>?_) (fun hb=>?_)
  ·have hmem:65 + g∈s:=hm.1 hb
   simp only [Zaw,Yav,Zao,Znz,chk,decide_true]
   refine ⟨by omega,by simp only [List.length_cons,List.length_nil]; omega,?_⟩
   apply Zhg.J4i
   rw [e2]
   refine hR (g + 1) _ _ _ (by omega) ⟨rfl,by omega,hS.trans (Zbc.app hS.le _),?_⟩
   rw [Yef,List.filter_append,Int.toNat_natCast]; simp [hmem]
  ·have hmem:¬ 65 + g∈s:=fun hx=>hb (hm.2 hx)
   apply Zhg.J4i
   rw [e2]
   refine hR (g + 1) _ _ _ (by omega) ⟨rfl,by omega,hS,?_⟩
   rw [Yef,List.filter_append]; simp [hmem]
 ·apply Zhg.A3x0i
  have:g=20:=by omega
  subst this
  exact ⟨rfl,hS⟩
theorem Yic (s:List Nat):(Ysh s).Pairwise (· < ·):=List.Pairwise.filter _ (by decide)
theorem Zxw {cs:List Nd} {s:List Nat} (k:Zgg cs s=true):∃ hi:(cs.findIdx fun x=>decide (x.1=s)) < cs.length,cs[cs.findIdx fun x=>decide (x.1=s)].1=s:=by
 unfold Zgg at k
 have hi:(cs.findIdx fun x=>decide (x.1=s)) < cs.length:=List.findIdx_lt_length_of_exists (by rw [List.any_eq_true] at k; exact k)
 exact ⟨hi,by simpa using List.findIdx_getElem (w:=hi)⟩
def upL (cs:List Nd) (e:Nat):List Nat:=(cs.getD (cs.findIdx fun x=>decide (x.1=[e])) ([],[])).2
theorem Ytr {cs:List Nd} (h:Zir cs=true) {e d:Nat} (k:Zgg cs [e]=true):d∈upL cs e ↔ Up cs e d:=by
 obtain ⟨hi,he⟩:=Zxw k
 unfold upL
 rw [Zgi hi]
 exact ⟨fun hd=>⟨_,hi,he,hd⟩,fun u=>u.ix h hi he⟩
theorem Zwp {cs:List Nd} (h:Zir cs=true) {i a d:Nat} (hi:i < cs.length) (ha:cs[i].1=[a]) (r:Rch cs a d):Zgg cs [d]=true:=by
 obtain ⟨j,hj,hd⟩:=r.ix h hi ha
 unfold Zgg
 rw [List.any_eq_true]
 exact ⟨cs[j],List.getElem_mem (by omega),by simpa using hd⟩
theorem Yht {h:Zaa} {a0 a1:Pt} {n0 c0 n1 c1:Nat} {e0 e1:Bool} {w:Wd} {s:List Nat} (r:Zkr h a0 n0 c0 a1 n1 c1 w) (b:WB w) :
  Zak pg Zpu [.agg [.slice a0 n0 c0 e0,.slice a1 n1 c1 e1],.str s] h fun v h'=>v=.str (Zjf w s)∧Zbc h.length h h':=by
 have hl0:=r.len0
 have hlc:=b.lc
 apply Zeu.call
 simp only [Zaw]
 generalize hh0:h ++ [Zcb.cells Zac [.slice a0 n0 c0 e0,.slice a1 n1 c1 e1] false]=h0
 have s0:Zbc h.length h h0:=by rw [← hh0]; exact Zal
 have w0:h0[h.length]?=some (Zlu a0 n0 c0 e0 a1 n1 c1 e1):=by rw [← hh0]; simp [Zlu]
 rw [Zth w0]
 simp only [Zao,Zae,Zam,Zaj]
 refine (Ygn (r.same s0) b).mono ?_
 rintro v h2 ⟨rfl,s2⟩
 have S2:=s0.cat s2
 have w2:=s2.get w0 (Own.lt w0)
 simp only [Zaq]
 refine Zbs (fun b1=>⟨by unfold Zjf; rw [b1]; rfl,S2⟩) (fun b1=>?_)
 simp only [Bool.and_eq_true] at b1
 have hc:=Zvy b1.1
 obtain ⟨i,hi,a,rfl,ha⟩:=Yfn hc b1.2
 have hsw:Zjf w [a]=Ype w.cs a:=by unfold Zjf; rw [b1.1,b1.2]; rfl
 rw [hsw]
 obtain ⟨hfi,hfa⟩:=Zxw b1.2
 have hia:=Ybj hc hi hfi ha hfa
 have hix:Yam w.cs [a]=(i:Int):=by unfold Yam; rw [b1.2,if_pos rfl,← hia]
 have hn4:n0≤4:=by
  have h1:=hc
  unfold Zir at h1
  simp only [Bool.and_eq_true,decide_eq_true_eq] at h1
  omega
 rw [Zth w2]
 simp only [Zrb w2,Nat.zero_add,List.getElem?_cons_zero,Zao,Zae,Zam,Zaj,true_and]
 refine (Znm (r.cls.same' S2) (by omega)).mono ?_
 rintro v h3 ⟨rfl,s3⟩
 have S3:=S2.cat s3
 have w3:=s3.get w2 (Own.lt w2)
 rw [hix]
 obtain ⟨i',o',hgl,rfl,_,_,_,hcell⟩:=(r.cls.same' S3).pr (k:=i) (by omega)
 simp only [Zrb w3,List.getElem?_cons_zero,Zax,Zau,Int.toNat_natCast,hcell,Zah,Zaj,true_and]
 refine ⟨by omega,?_⟩
 have hbl:=(b.cs _ (List.getElem_mem hi)).2.1
 refine Zeu.L6ind _ _ _ _ _ (J:=fun (g:Nat) x6 x24 h'=>x24=(g:Int)∧g≤n0∧Zbc h3.length h3 h'∧Yvy w.cs a i g x6∧x6.length≤1048576∧(g≠0→x6.Pairwise (· < ·))) (fun g=>n0 - g) ?_ 0 _ _ _ ⟨rfl,by omega,Zbc.refl _ _,Yvy.start hc hi ha,hbl,by simp⟩
 rintro g x6 x24 h' ⟨rfl,hg,hS,hR6,hlen,hsrt⟩ R hR
 have S4:=S3.cat hS
 have w4:=hS.get w3 (Own.lt w3)
 unfold Zeu.L6t
 refine Zar (fun hlt=>?_) (fun hge=>?_)
 ·refine Zeu.L8ind _ _ _ _ _ _ _ _ (J:=fun (q:Nat) y x28 h5=>x28=(q:Int)∧q≤x6.length∧Zbc h'.length h' h5∧y=x6 ++ (x6.take q).flatMap (upL w.cs)∧y.length≤x6.length + q * 1048576) (fun q=>x6.length - q) ?_ 0 _ _ _ ⟨rfl,by omega,Zbc.refl _ _,by simp,by omega⟩
  rintro q y x28 h5 ⟨rfl,hq,hS5,rfl,hyl⟩ R8 hR8
  have S5:=S4.cat hS5
  have w5:=hS5.get w4 (Own.lt w4)
  have hqb:q * 1048576≤1048576 * 1048576:=Nat.mul_le_mul_right _ (by omega)
  unfold Zeu.L8t
  refine Zar (fun hltq=>?_) (fun hgeq=>?_)
  ·have hq':q < x6.length:=by omega
   have hqy:q < (x6 ++ (x6.take q).flatMap (upL w.cs)).length:=by rw [List.length_append]; omega
   have hget:(x6 ++ (x6.take q).flatMap (upL w.cs))[q]=x6[q]:=List.getElem_append_left hq'
   rw [Zbm (by omega),Ycj hqy rfl,hget,Zth w5]
   simp only [Nat.zero_add,Zrb w5,List.getElem?_cons_zero,Zao,Zae,Zam,Zaj,true_and]
   refine ⟨⟨by omega,by omega,by omega⟩,(Znm (r.cls.same' S5) (by omega)).mono ?_⟩
   rintro v h6 ⟨rfl,s6⟩
   have S6:=S5.cat s6
   have w6:=s6.get w5 (Own.lt w5)
   have hmem:x6[q]∈x6:=List.getElem_mem hq'
   have hk:=Zwp hc hi ha (hR6.sound _ hmem)
   obtain ⟨hfj,hfd⟩:=Zxw hk
   generalize hjx:(w.cs.findIdx fun x=>decide (x.1=[x6[q]]))=jx at hfj hfd
   have hcx:Yam w.cs [x6[q]]=((jx:Nat):Int):=by unfold Yam; rw [hk,if_pos rfl,hjx]
   rw [hcx]
   have hup:upL w.cs x6[q]=(w.cs[jx]).2:=by unfold upL; rw [hjx,Zgi hfj]
   obtain ⟨i2,o2,hgl2,heq,_,_,_,hcell2⟩:=(r.cls.same' S6).pr (k:=jx) (by omega)
   cases heq
   simp only [Zax,Zrb w6,List.getElem?_cons_zero,Zau,Int.toNat_natCast,hcell2,Zah,true_and]
   have hul:=(b.cs _ (List.getElem_mem hgl2)).2.1
   have htk:(x6.take (q + 1)).flatMap (upL w.cs)=(x6.take q).flatMap (upL w.cs) ++ upL w.cs x6[q]:=by
    rw [List.take_succ_eq_append_getElem hq',List.flatMap_append]; simp
   refine ⟨by omega,by omega,?_⟩
   refine hR8 (q + 1) _ _ _ (by omega) ⟨rfl,by omega,hS5.cat s6,?_,?_⟩
   ·rw [htk,hup,List.append_assoc]
   ·rw [List.length_append]
    have:(q + 1) * 1048576=q * 1048576 + 1048576:=Nat.succ_mul _ _
    omega
  ·apply Zeu.A8x2i
   have:q=x6.length:=by omega
   subst this
   rw [List.take_length] at hyl ⊢
   refine (Ykd _ (by omega)).mono ?_
   rintro v h6 ⟨rfl,s6⟩
   simp only [Zah]
   rw [Zbm (by omega)]
   have hmm:∀ d,d∈x6 ++ x6.flatMap (upL w.cs) ↔ d∈x6 ∨ ∃ e∈x6,Up w.cs e d:=fun d=>by
    rw [List.mem_append,List.mem_flatMap]
    refine or_congr Iff.rfl ⟨fun ⟨e,he,hd⟩=>⟨e,he,(Ytr hc (Zwp hc hi ha (hR6.sound _ he))).1 hd⟩,fun ⟨e,he,hd⟩=>⟨e,he,(Ytr hc (Zwp hc hi ha (hR6.sound _ he))).2 hd⟩⟩
   refine hR (g + 1) _ _ _ (by omega) ⟨rfl,by omega,(hS.cat hS5).cat s6,hR6.next hc hi ha (fun d hd=>?_) (fun d hd=>?_),?_,fun _=>Yic _⟩
   ·unfold Ysh at hd
    rw [List.mem_filter] at hd
    exact (hmm d).1 (by simpa using hd.2)
   ·unfold Ysh
    rw [List.mem_filter]
    refine ⟨?_,by simpa using (hmm d).2 hd⟩
    have hrd:Rch w.cs a d:=by
     rcases hd with hd | ⟨e,he,u⟩
     ·exact hR6.sound d hd
     ·exact .more (hR6.sound e he) u
    obtain ⟨j,hj,hjd⟩:=hrd.ix hc hi ha
    obtain ⟨e,he,h1,h2⟩:=Zqp hc (show j < w.cs.length by omega)
    rw [hjd] at he
    cases he
    rw [List.mem_range']
    exact ⟨d - 65,by omega,by omega⟩
   ·unfold Ysh
    exact Nat.le_trans (List.length_filter_le _ _) (by simp)
 ·apply Zeu.A6x0i
  have:g=n0:=by omega
  subst this
  have hfin:x6=Ype w.cs a:=Ycq (hsrt (by omega)) (Ycc _ _) fun d=>by rw [hR6.all hc hi ha (by omega) d,Yfa hc hi ha]
  refine Zeu.L15ind _ _ _ (J:=fun (q:Nat) y x51 h5=>x51=(q:Int)∧q≤x6.length∧h5=h'∧y=x6.take q) (fun q=>x6.length - q) ?_ 0 _ _ _ ⟨rfl,by omega,rfl,rfl⟩
  rintro q y x51 h5 ⟨rfl,hq,rfl,rfl⟩ R15 hR15
  unfold Zeu.L15t
  refine Zar (fun hlt=>?_) (fun hge=>?_)
  ·have hq':q < x6.length:=by omega
   rw [Zbm (by omega),Ycj hq' rfl]
   refine ⟨⟨by omega,by omega,by omega⟩,by simp; omega,hR15 (q + 1) _ _ _ (by omega) ⟨rfl,by omega,rfl,?_⟩⟩
   rw [List.take_succ_eq_append_getElem hq']
  ·apply Zeu.A15x4i
   have:q=x6.length:=by omega
   subst this
   rw [List.take_length]
   exact ⟨by rw [hfin],S4⟩
end Go.Sim

set_option linter.unusedVariables false
set_option linter.unusedSimpArgs false
set_option maxRecDepth 20000
namespace Go.Sim
open Go Go.RowKit

theorem Yek (x y:Nd):(decide (x.1=y.1) && decide (x.2=y.2))=decide (x=y):=by
 rw [Bool.eq_iff_iff]; simp [Prod.ext_iff]
theorem Ydp {h:Zaa} {a:Pt} {n c:Nat} {e:Bool} {l:List Nd} {x:Nd} (r:Row h.length h a (n * 2) (Zdb eP l)) (hn:n≤1048576) :
  Zak pg Zeg [.slice a n c e,.agg [.str x.1,.str x.2]] h fun v h'=>(∃ z:Int,v=.int .i64 z∧decide (z ≥ 0)=decide (x∈l)∧z < (n:Int))∧Zbc h.length h h':=by
 have hl:l.length=n:=by have:=r.1; rw [Zat Zcr] at this; omega
 apply Zdk.call
 simp only [Zaw]
 generalize hh0:h ++ [Zcb.cells Zab [.str x.1,.str x.2] false]=h0
 have s0:Zbc h.length h h0:=by rw [← hh0]; exact Zal
 have x0:h0[h.length]?=some (.cells Zab [.str x.1,.str x.2] false):=by rw [← hh0]; simp
 refine Zdk.L2ind _ _ _ _ _ _ _ _ (J:=fun (g:Nat) x8 h'=>x8=(g:Int)∧g≤n∧h'=h0∧x ∉ l.take g) (fun g=>n - g) ?_ 0 _ _ ⟨rfl,by omega,rfl,by simp⟩
 rintro g x8 h' ⟨rfl,hg,rfl,hk⟩ R hR
 unfold Zdk.L2t
 refine Zar (fun hlt=>?_) (fun hge=>?_)
 ·obtain ⟨i,o,hgl,rfl,_,hr,_⟩:=(r.same s0).pr (k:=g) (by omega)
  rw [Zaz x0]
  simp only [Zau,Int.toNat_natCast,hr,Zao,Zae,Zam,Zah,true_and,Yek]
  refine ⟨by omega,Zar (fun he=>?_) (fun he=>?_)⟩
  ·refine ⟨⟨_,rfl,?_,by omega⟩,s0⟩
   have:x∈l:=by rw [he]; exact List.getElem_mem hgl
   simp [this]
  ·rw [Zbm (by omega)]
   refine hR (g + 1) _ _ (by omega) ⟨rfl,by omega,rfl,?_⟩
   rw [List.take_succ_eq_append_getElem hgl,List.mem_append]
   rintro (hx | hx)
   ·exact hk hx
   ·exact he (by simpa using hx)
 ·apply Zdk.A2x0i
  have:g=n:=by omega
  subst this
  rw [List.take_of_length_le (by omega)] at hk
  exact ⟨⟨_,rfl,by simp [hk],by omega⟩,s0⟩
theorem Yfg {h:Zaa} {a:Pt} {n c:Nat} {e:Bool} {l:List Nd} {x:Nd} (r:Row h.length h a (n * 2) (Zdb eP l)) (hn:n≤1048576) :
  Zak pg Zev [.slice a n c e,.agg [.str x.1,.str x.2]] h fun v h'=>v=.bool (decide (x∈l))∧Zbc h.length h h':=by
 apply Zgs.call
 simp only [Zaw]
 have s0:Zbc h.length h (h ++ [.cells Zab [.str x.1,.str x.2] false]):=Zal
 rw [Zzk]
 simp only [Zao,Zae,Zam,Zah]
 refine (Ydp (x:=x) (r.same' s0) hn).mono ?_
 rintro v h2 ⟨⟨z,rfl,hz,_⟩,s2⟩
 simp only [Zax]
 exact ⟨by rw [hz],s0.cat s2⟩
theorem Yye {h:Zaa} {a:Pt} {n c:Nat} {e:Bool} {l:List Nd} {x:Nd} (r:Row h.length h a (n * 2) (Zdb eP l)) (hn:n≤1048576) :
  Zak pg Zwe [.slice a n c e,.agg [.str x.1,.str x.2]] h fun v h'=>v=.bool (decide (x∈l))∧Zbc h.length h h':=by
 have hl:l.length=n:=by have:=r.1; rw [Zat Zcr] at this; omega
 apply Zps.call
 simp only [Zaw]
 generalize hh0:h ++ [Zcb.cells Zab [.str x.1,.str x.2] false]=h0
 have s0:Zbc h.length h h0:=by rw [← hh0]; exact Zal
 have x0:h0[h.length]?=some (.cells Zab [.str x.1,.str x.2] false):=by rw [← hh0]; simp
 refine Zps.L2ind _ _ _ _ _ _ _ _ (J:=fun (g:Nat) x8 h'=>x8=(g:Int)∧g≤n∧Zbc h0.length h0 h'∧x ∉ l.take g) (fun g=>n - g) ?_ 0 _ _ ⟨rfl,by omega,Zbc.refl _ _,by simp⟩
 rintro g x8 h' ⟨rfl,hg,hS,hk⟩ R hR
 have SS:=s0.cat hS
 unfold Zps.L2t
 refine Zar (fun hlt=>?_) (fun hge=>?_)
 ·obtain ⟨i,o,hgl,rfl,_,hr,_⟩:=(r.same SS).pr (k:=g) (by omega)
  simp only [Zau,Int.toNat_natCast,hr,Zao,Zae,Zam,Zah,Zaw]
  rw [Zfb]
  generalize hq:h' ++ [Zcb.cells Zab [.str l[g].1,.str l[g].2] false]=hq'
  have sq:Zbc h'.length h' hq':=by rw [← hq]; exact Zal
  simp only [Zas]
  rw [Zaz ((hS.cat sq).get x0 (Own.lt x0)),← hq,Zzk,hq]
  simp only [Zao,Zae,Zam,Zah,Yek]
  refine ⟨by omega,Zar (fun he=>?_) (fun he=>?_)⟩
  ·have:x∈l:=by rw [← he]; exact List.getElem_mem hgl
   exact ⟨by simp [this],SS.cat sq⟩
  ·rw [Zbm (by omega)]
   refine hR (g + 1) _ _ (by omega) ⟨rfl,by omega,hS.cat sq,?_⟩
   rw [List.take_succ_eq_append_getElem hgl,List.mem_append]
   rintro (hx | hx)
   ·exact hk hx
   ·exact he (List.mem_singleton.1 hx).symm
 ·apply Zps.A2x0i
  have:g=n:=by omega
  subst this
  rw [List.take_of_length_le (by omega)] at hk
  exact ⟨by simp [hk],SS⟩
def Zka (l:List Nd) (x:Nd):List Nd:=if x∈l then l else l ++ [x]
theorem Yir (l:List Nd) (x:Nd):(Zka l x).length≤l.length + 1:=by unfold Zka; split <;> simp
structure Ycp (b:Nat) (h:Zaa) (a:Pt) (n c:Nat) (l:List Nd):Prop where
 vec:Vec Zab h a n c (Zdb eP l)
 len:l.length=n
 low:∀ i,a=some (i,0)→b≤i
 cap:n≤c
theorem Ycp.row {b:Nat} {h:Zaa} {a:Pt} {n c:Nat} {l:List Nd} (f:Ycp b h a n c l):Row h.length h a (n * 2) (Zdb eP l):=f.vec.row (by rw [Zat Zcr,f.len])
theorem Ycp.same {b:Nat} {h h':Zaa} {a:Pt} {n c:Nat} {l:List Nd} (f:Ycp b h a n c l) (s:Zbc h.length h h'):Ycp b h' a n c l:=⟨f.vec.same s,f.len,f.low,f.cap⟩
def But (a:Pt) (h h':Zaa):Prop:=h.length≤h'.length∧∀ j,j < h.length→(∀ i,a=some (i,0)→j≠i)→h'[j]?=h[j]?
theorem But.of {a:Pt} {h h':Zaa} (s:Zbc h.length h h'):But a h h':=⟨s.le,fun j hj _=>s.eq j hj⟩
theorem But.below {a:Pt} {b:Nat} {h h':Zaa} (s:But a h h') (hb:b≤h.length) (hl:∀ i,a=some (i,0)→b≤i):Zbc b h h':=⟨s.1,fun j hj=>s.2 j (by omega) fun i hi=>by have:=hl i hi; omega⟩
theorem Ypg {h:Zaa} {b:Nat} {a a1:Pt} {n c c1:Nat} {e e1:Bool} {l:List Nd} {x:Nd} (f:Ycp b h a n c l) (hb:b≤h.length) (hn:n≤524288) (r:Row h.length h a1 (1 * 2) (Zdb eP [x])) :
  Zak pg Zsa [.slice a n c e,.slice a1 1 c1 e1] h fun v h'=>∃ a' n' c' e',v=.slice a' n' c' e'∧Ycp b h' a' n' c' (Zka l x)∧But a h h'∧(a'=a ∨ ∀ i,a'=some (i,0)→h.length≤i):=by
 apply Zls.call
 refine Zls.L2ind _ _ _ _ _ _ (J:=fun (g:Nat) a0 n0 c0 e0 x9 h'=>x9=(g:Int)∧g≤1∧((g=0∧a0=a∧n0=n∧c0=c∧h'=h) ∨ (g=1∧Ycp b h' a0 n0 c0 (Zka l x)∧But a h h'∧(a0=a ∨ ∀ i,a0=some (i,0)→h.length≤i)))) (fun g=>1 - g) ?_ 0 _ _ _ _ _ _ ⟨rfl,by omega,.inl ⟨rfl,rfl,rfl,rfl,rfl⟩⟩
 rintro g a0 n0 c0 e0 x9 h' ⟨rfl,hg,hst⟩ R hR
 unfold Zls.L2t
 refine Zar (fun hlt=>?_) (fun hge=>?_)
 ·rcases hst with ⟨rfl,rfl,rfl,rfl,rfl⟩ | ⟨rfl,_⟩
  ·obtain ⟨i,o,hgl,rfl,_,hr,_⟩:=r.pr (k:=0) (by omega)
   simp only [Zau,Int.toNat_natCast,hr,Zao,Zae,Zam,Zah,Zaw,List.getElem_cons_zero]
   rw [Zfb]
   simp only [Zas]
   rw [Zzk]
   simp only [Zao,Zae,Zam,Zah]
   generalize hq:h' ++ [Zcb.cells Zab [.str x.1,.str x.2] false]=hq'
   have sq:Zbc h'.length h' hq':=by rw [← hq]; exact Zal
   have iq:hq'[h'.length]?=some (.cells Zab [.str x.1,.str x.2] false):=by rw [← hq]; simp
   have fq:=f.same sq
   refine ⟨by omega,(Yfg (x:=x) fq.row (by omega)).mono ?_⟩
   rintro v h3 ⟨rfl,s3⟩
   simp only [Zaq]
   have f3:=fq.same s3
   have i3:=s3.get iq (Own.lt iq)
   have S3:=sq.cat s3
   refine Zbs (fun hm=>?_) (fun hm=>?_)
   ·rw [Zaz i3]
    simp only [Zao,Zae,Zam,Zah]
    have hnm:Zka l x=l ++ [x]:=by unfold Zka; rw [if_neg (by simpa using hm)]
    refine f3.vec.pushN Zhi Zng Znd Znc (by rw [Zat Zcr,f3.len]) rfl (by omega) rfl (by omega) (fun h4 hl4 hi4 hk4=>?_)
    simp only [Zaj]
    apply Zls.J6i
    have hle:=S3.le
    have hrl:=f.low
    refine hR 1 _ _ _ _ _ _ (by omega) ⟨rfl,by omega,.inr ⟨rfl,⟨Vec.mk1 ?_,?_,fun i hi=>by cases hi; omega,Nat.le_refl _⟩,⟨by omega,fun j hj hne=>?_⟩,.inr fun i hi=>by cases hi; omega⟩⟩
    ·rw [hi4,hnm,Zgv]; rfl
    ·rw [hnm,List.length_append,f.len]; rfl
    ·rw [hk4 j (by omega) hne]; exact S3.eq j hj
   ·apply Zls.J6i
    have hnm:Zka l x=l:=by unfold Zka; rw [if_pos (by simpa using hm)]
    exact hR 1 _ _ _ _ _ _ (by omega) ⟨rfl,by omega,.inr ⟨rfl,by rw [hnm]; exact f3,But.of S3,.inl rfl⟩⟩
  ·omega
 ·rcases hst with ⟨rfl,_⟩ | ⟨rfl,fv,bt⟩
  ·omega
  ·apply Zls.A2x0i
   exact ⟨_,_,_,_,rfl,fv,bt⟩
end Go.Sim

set_option linter.unusedSimpArgs false
set_option linter.unusedVariables false
namespace Go.Sim

structure Wk where
 cand:Nd→List Int
 needs:Int→List Nat→Option (List Nd)
 most:List Int→Int
inductive Fnd where
 | ok (s:List Nat)
 | no (why:List Nat) (n:Nd)
def Zuj:List Nat:=[119,114,111,110,103]
end Go.Sim

set_option linter.unusedVariables false
set_option linter.unusedSimpArgs false
set_option maxRecDepth 20000
namespace Go.Sim
open Go Go.RowKit

structure FrS (i:Nat) (qa:Pt) (h h':Zaa) (qa':Pt):Prop where
 le:h.length≤h'.length
 eq:∀ j,j < h.length→j≠i→(∀ q,qa=some (q,0)→j≠q)→h'[j]?=h[j]?
 pt:qa'=qa ∨ ∀ q,qa'=some (q,0)→h.length≤q
theorem FrS.of_same {i:Nat} {qa:Pt} {h h':Zaa} (s:Zbc h.length h h'):FrS i qa h h' qa:=⟨s.le,fun j hj _ _=>s.eq j hj,.inl rfl⟩
theorem FrS.refl (i:Nat) (qa:Pt) (h:Zaa):FrS i qa h h qa:=.of_same (Zbc.refl _ _)
theorem FrS.ne {i:Nat} {qa qa':Pt} {h h':Zaa} (f:FrS i qa h h' qa') {j:Nat} (hj:j < h.length) (hq:∀ q,qa=some (q,0)→j≠q):∀ q,qa'=some (q,0)→j≠q:=by
 intro q hq'
 rcases f.pt with e | e
 ·exact hq q (e ▸ hq')
 ·have:=e q hq'; omega
theorem FrS.trans {i:Nat} {qa qa1 qa2:Pt} {h h1 h2:Zaa} (f:FrS i qa h h1 qa1) (g:FrS i qa1 h1 h2 qa2):FrS i qa h h2 qa2:=by
 have:=f.le; have:=g.le
 refine ⟨by omega,fun j hj hi hq=>?_,?_⟩
 ·rw [g.eq j (by omega) hi (f.ne hj hq)]; exact f.eq j hj hi hq
 ·rcases g.pt with e | e
  ·rcases f.pt with e' | e'
   ·exact .inl (e.trans e')
   ·exact .inr fun q hq=>e' q (e ▸ hq)
  ·exact .inr fun q hq=>by have:=e q hq; omega
theorem FrS.set {i:Nat} {qa:Pt} {h:Zaa} {x:Zcb}:FrS i qa h (h.set i x) qa:=⟨by simp,fun j _ hi _=>Zbw (fun e=>hi e.symm),.inl rfl⟩
theorem FrS.get {i:Nat} {qa qa':Pt} {h h':Zaa} (f:FrS i qa h h' qa') {j:Nat} {x:Zcb} (hj:h[j]?=some x) (hi:j≠i) (hq:∀ q,qa=some (q,0)→j≠q):h'[j]?=some x:=by rw [f.eq j (Own.lt hj) hi hq]; exact hj
theorem FrS.row {i:Nat} {qa qa':Pt} {h h':Zaa} (f:FrS i qa h h' qa') {a:Pt} {n:Nat} {cs:List Zay} (r:Row h.length h a n cs) (hn:∀ j o,n≠0→a=some (j,o)→j≠i∧∀ q,qa=some (q,0)→j≠q):Row h'.length h' a n cs:=by
 obtain ⟨hl,r⟩:=r
 by_cases h0:n=0
 ·exact ⟨hl,.inl h0⟩
 ·refine ⟨hl,r.imp id ?_⟩
  rintro ⟨j,o',t,all,ro,ha,hi,hg,x⟩
  have:=f.le
  obtain ⟨h1,h2⟩:=hn j o' h0 ha
  exact ⟨j,o',t,all,ro,ha,by omega,by rw [f.eq j hi h1 h2]; exact hg,x⟩
theorem FrS.below {i b:Nat} {qa qa':Pt} {h h':Zaa} (f:FrS i qa h h' qa') (hb:b≤h.length) (hi:b≤i) (hq:∀ q,qa=some (q,0)→b≤q):Zbc b h h':=⟨f.le,fun j hj=>f.eq j (by omega) (by omega) fun q hq'=>by have:=hq q hq'; omega⟩
end Go.Sim

set_option linter.unusedSimpArgs false
set_option linter.unusedVariables false
namespace Go.Sim

def Yyh:Fnd→List Nat | .ok s=>s | .no _ _=>[]
def Yjg:Fnd→List Nat | .ok _=>[] | .no y _=>y
section
variable {k:Wk} {sp:Bool} {dec:Int→List Nat}
end
end Go.Sim

set_option linter.unusedVariables false
set_option linter.unusedSimpArgs false
set_option maxRecDepth 20000
namespace Go.Sim
open Go Go.RowKit

theorem Ytm {g:FuncId} {caps:List Zay} {K:FuncId→List Zay→Prop}:Yyx (.fn g caps) K=K g caps:=rfl
theorem Vec.app0 {P:Program} {t ty:TypeId} {h:Zaa} {i n c sz:Nat} {e:Bool} {xa:Pt} {m c':Nat} {e':Bool} {cs new:List Zay} {K:Zay→Zaa→Prop} (hi:h[i]?=some (.cells ty cs false))
  (hu:P.underlying t=some (.slice ty)) (hc:P.cellsOf ty=sz) (hok:P.okElem ty=true) (hby:P.bytesOf ty≤127) (hn:cs.length=n * sz) (hx:rowOf h xa (m * sz)=some new) (hl:new.all Zay.leaf=true)
  (hle:n + m≤1099511627776) (hk:∀ h',h'.length=h.length + 1→h'[h.length]?=some (.cells ty (cs ++ new) false)→(∀ j,j < h.length→j≠i→h'[j]?=h[j]?) →
   K (.slice (some (h.length,0)) (n + m) (n + m) false) h'):Zci P t h (.slice (some (i,0)) n c e) (.slice xa m c' e') K:=by
 unfold Zci
 simp only [hu,hc,hx,Zao]
 refine ⟨⟨hok,?_,hl⟩,.inl ⟨by trivial,?_⟩⟩
 ·have:(n + m) * (P.bytesOf ty + 1)≤(n + m) * 128:=Nat.mul_le_mul_left _ (by omega)
  omega
 ·simp only [Zto,hi,true_and]
  refine ⟨hn,hk _ (by simp) (by rw [List.getElem?_append_right (by simp)]; simp) fun j hj hne=>?_⟩
  rw [List.getElem?_append_left (by simpa using hj),List.getElem?_set_ne (fun e=>hne e.symm)]
structure Yfz (hb:Zaa) (i:Nat) (u v:Zay) (sp:Bool) (h:Zaa) (qa:Pt) (asked:List Nd) (fl:Nd):Prop where
 same:Zbc hb.length hb h
 ge:hb.length≤i
 ob:∃ qn qc qe x7,h[i]?=some (.cells Zfc [u,v,.bool sp,.fn Zdh [],.slice qa qn qc qe,.str fl.1,.str fl.2,x7] false)∧Ycp hb.length h qa qn qc asked
 ne:∀ q,qa=some (q,0)→q≠i
section
variable {hb:Zaa} {i:Nat} {u v:Zay} {sp:Bool} {h:Zaa} {qa:Pt} {asked:List Nd} {fl:Nd}
theorem Yfz.step {h':Zaa} (r:Yfz hb i u v sp h qa asked fl) (k:Zbc h.length h h'):Yfz hb i u v sp h' qa asked fl:=by
 obtain ⟨qn,qc,qe,x7,ho,hv⟩:=r.ob
 exact ⟨r.same.trans (k.mono r.same.le),r.ge,⟨qn,qc,qe,x7,k.get ho (Own.lt ho),hv.same k⟩,r.ne⟩
theorem Yfz.lt (r:Yfz hb i u v sp h qa asked fl):i < h.length:=by obtain ⟨_,_,_,_,ho,_⟩:=r.ob; exact Own.lt ho
theorem Yfz.low (r:Yfz hb i u v sp h qa asked fl):∀ q,qa=some (q,0)→hb.length≤q∧q < h.length:=by
 obtain ⟨qn,qc,qe,x7,ho,hv⟩:=r.ob
 exact fun q hq=>⟨hv.low q hq,hv.vec.lt' hq⟩
def Ypd (hb:Zaa) (i:Nat) (u v:Zay) (sp:Bool) (h:Zaa) (qa:Pt) (r:Fnd × List Nd) (x:Zay) (h':Zaa):Prop:=
 ∃ qa' fl',x=.tup [.str (Yyh r.1),.str (Yjg r.1)]∧Yfz hb i u v sp h' qa' r.2 fl'∧FrS i qa h h' qa'∧∀ y n,r.1=.no y n→(y≠[]∧y≠Zuj)∧fl'=n
theorem Ypd.of {h0:Zaa} {qa0:Pt} {r:Fnd × List Nd} {x:Zay} {h':Zaa} (F:FrS i qa0 h0 h qa) (q:Ypd hb i u v sp h qa r x h'):Ypd hb i u v sp h0 qa0 r x h':=by
 obtain ⟨qa',fl',e,a,f,z⟩:=q
 exact ⟨qa',fl',e,a,F.trans f,z⟩
end
end Go.Sim

set_option linter.unusedVariables false
set_option linter.unusedSimpArgs false
set_option maxRecDepth 20000
namespace Go.Sim
open Go Go.RowKit

theorem Zsd:pg.underlying Zfq=some (.slice Zad):=by kernel_rfl
theorem Yce:pg.cellsOf Zad=3:=by kernel_rfl
theorem Yaq:pg.okElem Zad=true:=by kernel_rfl
theorem Ybd:pg.bytesOf Zad≤127:=Nat.le_of_ble_eq_true (by kernel_rfl)
theorem Yaa:pg.underlying Zkx=some (.slice Zbj):=by kernel_rfl
theorem Yli:pg.cellsOf Zbj=2:=by kernel_rfl
theorem Yln:pg.okElem Zbj=true:=by kernel_rfl
theorem Yly:pg.bytesOf Zbj≤127:=Nat.le_of_ble_eq_true (by kernel_rfl)
theorem Zgq {h:Zaa} {i j:Nat} {t t':TypeId} {cs cs':List Zay} {ro ro':Bool} (hi:h[i]?=some (.cells t cs ro)) (hj:h[j]?=some (.cells t' cs' ro')) (hne:t≠t'):i≠j:=by
 rintro rfl; rw [hi] at hj; injection hj with hj; injection hj with hj _ _; exact hne hj
theorem Yry {h:Zaa} {a:Pt} {n cp:Nat} {e:Bool} {i:Ins} (r:Row h.length h a (n * 2) (Zdb eP i.2)) (hn:n≤1048576) :
  Zak pg Zjj [.agg [.str i.1.1,.str i.1.2,.slice a n cp e]] h fun v h'=>∃ a' c' e',v=.agg [.str i.1.1,.str i.1.2,.slice a' n c' e']∧Zbc h.length h h'∧Zds Zab eP h.length h' a' n i.2∧a'≠none∧n≤c':=by
 have hl:i.2.length=n:=by have:=r.1; rw [Zat Zcr] at this; omega
 apply Znw.call
 simp only [Zaw]
 generalize hh0:h ++ [Zcb.cells Zad [.str i.1.1,.str i.1.2,.slice a n cp e] false]=h0
 generalize hh1:h0 ++ [Zcb.cells Zad [.str [],.str [],.slice none 0 0 true] false]=h1
 generalize hh2:h1 ++ [Zcb.cells Zab [] false]=h2
 have s0:Zbc h.length h h0:=by rw [← hh0]; exact Zal
 have s1:Zbc h0.length h0 h1:=by rw [← hh1]; exact Zal
 have s2:Zbc h1.length h1 h2:=by rw [← hh2]; exact Zal
 have l0:h0.length=h.length + 1:=by rw [← hh0]; simp
 have l1:h1.length=h0.length + 1:=by rw [← hh1]; simp
 have l2:h2.length=h1.length + 1:=by rw [← hh2]; simp
 have x0:h0[h.length]?=some (.cells Zad [.str i.1.1,.str i.1.2,.slice a n cp e] false):=by rw [← hh0]; simp
 have y1:h1[h0.length]?=some (.cells Zad [.str [],.str [],.slice none 0 0 true] false):=by rw [← hh1]; simp
 have z2:h2[h1.length]?=some (.cells Zab [] false):=by rw [← hh2]; simp
 have x2:=s2.get (s1.get x0 (by omega)) (by omega)
 have y2:=s2.get y1 (by omega)
 have S2:=(s0.cat s1).cat s2
 simp only [Zan x2,Nat.zero_add,List.getElem?_cons_succ,List.getElem?_cons_zero,Zaj]
 refine Vec.app0 (n:=0) z2 Zhi Zng Znd Znc (by simp) (r.same' S2).rowOf (Zjv (enc:=eP) (fun _=>rfl) i.2) (by omega) (fun h3 hl3 hi3 hk3=>?_)
 have x3:h3[h.length]?=some (.cells Zad [.str i.1.1,.str i.1.2,.slice a n cp e] false):=by rw [hk3 _ (by omega) (by omega)]; exact x2
 have y3:h3[h0.length]?=some (.cells Zad [.str [],.str [],.slice none 0 0 true] false):=by rw [hk3 _ (by omega) (by omega)]; exact y2
 simp only [Zaj,Nat.zero_add]
 rw [Zbg x3 (by simp)]
 simp only [Zas,putRow,List.take_succ_cons,List.take_zero,List.length_cons,List.length_nil,List.drop_succ_cons,List.drop_zero,List.drop_nil,List.cons_append,List.nil_append,List.append_nil]
 rw [Zox (Zce x3)]
 simp only [Zao,Zae,Zam,Zah,Zaj]
 have y4:(h3.set h.length (Zcb.cells Zad [.str i.1.1,.str i.1.2,.slice (some (h2.length,0)) n n false] false))[h0.length]?=some (.cells Zad [.str [],.str [],.slice none 0 0 true] false):=by rw [Zbw (by omega)]; exact y3
 rw [Zbg y4 (by simp)]
 simp only [Zas,putRow,List.take_zero,List.length_cons,List.length_nil,List.drop_succ_cons,List.drop_zero,List.drop_nil,List.cons_append,List.nil_append,List.append_nil]
 rw [Zox (Zce y4)]
 simp only [Zao,Zae,Zam,Zah,Zaj]
 refine ⟨_,_,_,rfl,⟨by simp; omega,fun j hj=>?_⟩,⟨hl,.inr ⟨h2.length,rfl,by omega,?_⟩⟩,by simp,Nat.le_refl _⟩
 ·rw [Zbw (by omega),Zbw (by omega),hk3 j (by omega) (by omega)]; exact S2.eq j hj
 ·rw [Zbw (by omega),Zbw (by omega),hi3]; simp
theorem Yjk {h:Zaa} {a0 a:Pt} {n0 c0 n cp:Nat} {e:Bool} {w:Wd} (r:Zkr h a0 n0 c0 a n cp w) (b:WB w) :
  Zak pg Zhw [.slice a n cp e] h fun v h'=>∃ a' c' e' ys,v=.slice a' n c' e'∧n≤c'∧Zbc h.length h h'∧Zds Zad eN h.length h' a' n ys∧ys.length=w.is.length∧a'≠none ∧
   (∀ (k:Nat) (x:EI) (i:Ins),ys[k]?=some x→w.is[k]?=some i→x.c=i.1.1∧x.t=i.1.2∧Zds Zab eP h.length h' x.a x.n i.2) ∧
   (∀ (j k:Nat) (x y:EI),j≠k→ys[j]?=some x→ys[k]?=some y→x.n≠0→y.n≠0→x.a≠y.a)∧(∀ x∈ys,x.a≠none)∧∃ q,a'=some (q,0)∧h.length≤q∧h'[q]?=some (.cells Zad (Zdb eN ys) false):=by
 have hl:=r.len1
 have hli:=b.li
 apply Zfk.call
 simp only [Zaw]
 refine Zfk.L3ind (J:=fun (g:Nat) a3 n3 c3 e3 x9 h'=>x9=(g:Int)∧g≤n∧Zbc h.length h h'∧∃ (q:Nat) (ys:List EI),a3=some (q,0)∧n3=g∧g≤c3∧h.length≤q∧ys.length=g∧h'[q]?=some (.cells Zad (Zdb eN ys) false) ∧
   (∀ (k:Nat) (x:EI) (i:Ins),ys[k]?=some x→w.is[k]?=some i→x.c=i.1.1∧x.t=i.1.2∧Zds Zab eP h.length h' x.a x.n i.2) ∧
   (∀ (j k:Nat) (x y:EI),j≠k→ys[j]?=some x→ys[k]?=some y→x.n≠0→y.n≠0→x.a≠y.a)∧∀ x∈ys,x.a≠none) (m:=fun g=>n - g) (hr:=?_) (g:=0)
  (hj:=⟨rfl,by omega,Zbc.app (Nat.le_refl _) _,h.length,[],rfl,rfl,by omega,Nat.le_refl _,rfl,by simp,by simp,by simp,by simp⟩) ..
 rintro g a3 n3 c3 e3 x9 h' ⟨rfl,hg,hs,q,ys,rfl,rfl,hgc,hql,hy,ho,hrep,hsep,hnn⟩ R hR
 unfold Zfk.L3t
 refine Zar (fun hlt=>?_) (fun hge=>?_)
 ·obtain ⟨i0,o0,hgl,a2,n2,c2,e2,rfl,hb0,hr,_,_,_,hrow,hn2⟩:=(r.same hs).inst (k:=n3) (by omega)
  have hb:=b.is _ (List.getElem_mem hgl)
  simp only [Zau,Int.toNat_natCast,hr,Zao,Zae,Zam,Zah,Zaj,Zaw]
  refine ⟨by omega,?_⟩
  generalize hh1:h' ++ [Zcb.cells Zad [.str [],.str [],.slice none 0 0 true] false]=h1
  have s1:Zbc h'.length h' h1:=by rw [← hh1]; exact Zal
  have o1:h1[h'.length]?=some (.cells Zad [.str [],.str [],.slice none 0 0 true] false):=by rw [← hh1]; simp
  rw [Zbg o1 (by simp)]
  simp only [Zas,putRow,List.take_zero,List.length_cons,List.length_nil,List.drop_succ_cons,List.drop_zero,List.drop_nil,List.cons_append,List.nil_append,List.append_nil,Nat.zero_add]
  generalize hh2:h1.set h'.length (Zcb.cells Zad [.str w.is[n3].1.1,.str w.is[n3].1.2,.slice a2 n2 c2 e2] false)=h2
  have o2:h2[h'.length]?=some (.cells Zad [.str w.is[n3].1.1,.str w.is[n3].1.2,.slice a2 n2 c2 e2] false):=by rw [← hh2]; exact Zce o1
  have s2:Zbc h'.length h' h2:=by rw [← hh2]; exact s1.set' (Nat.le_refl _)
  rw [Zox o2]
  simp only [Zao,Zae,Zam,Zah,Zaj]
  refine (Yry (i:=w.is[n3]) (hrow.same' s2) (by omega)).mono ?_
  rintro v h3 ⟨a',c',e',rfl,s3,f3,hnn3,hc3⟩
  simp only [Zdt,Zae,Zam,Zah,Zaj,Zaw]
  have S3:=s2.cat s3
  have hol:=Own.lt ho
  have ho3:=S3.get ho hol
  have hle2:=s2.le
  have hle3:=s3.le
  have hlh:=hs.le
  refine (Vec.mk1 ho3).pushN Zsd Yce Yaq Ybd (by rw [Zat Zrn,hy]) rfl (by omega) rfl (by omega) (fun h4 hl4 hi4 hk4=>?_)
  simp only [Zaj]
  rw [Zbm (by omega)]
  have keep:∀ {a:Pt} {m:Nat} {l:List Nd} {b:Nat},Zds Zab eP b h3 a m l→Zds Zab eP b h4 a m l:=fun f=>⟨f.1,f.2.imp id fun ⟨j,ha,hbj,hc⟩=>⟨j,ha,hbj,by rw [hk4 j (Own.lt hc) (fun j' hj'=>by cases hj'; exact Zgq hc ho3 (by decide))]; exact hc⟩⟩
  refine hR (n3 + 1) _ _ _ _ _ _ (by omega) ⟨rfl,by omega,⟨by omega,fun j hj=>?_⟩,h3.length + 1,ys ++ [⟨w.is[n3].1.1,w.is[n3].1.2,a',n2,c',e'⟩],rfl,rfl,Nat.le_refl _,by omega,by simp [hy],by rw [hi4]; simp [eN],?_,?_,fun x hx=>?_⟩
  ·rw [hk4 j (by omega) (fun j' hj'=>by cases hj'; omega),S3.eq j (by omega)]; exact hs.eq j hj
  ·intro k x j hx hj
   by_cases hk:k < n3
   ·rw [List.getElem?_append_left (by omega)] at hx
    obtain ⟨p1,p2,p3⟩:=hrep k x j hx hj
    exact ⟨p1,p2,keep (p3.same S3)⟩
   ·have hkg:k=n3:=by have:=(List.getElem?_eq_some_iff.1 hx).1; simp at this; omega
    subst hkg
    rw [List.getElem?_append_right (by omega)] at hx
    simp [hy] at hx
    subst hx
    rw [List.getElem?_eq_getElem hgl] at hj
    cases hj
    exact ⟨rfl,rfl,keep ⟨f3.1,f3.2.imp id fun ⟨j,ha,hbj,hc⟩=>⟨j,ha,by omega,hc⟩⟩⟩
  ·have old:∀ (k:Nat) (x:EI),k < n3→ys[k]?=some x→x.n≠0→n2≠0→x.a≠a':=by
    intro k x hk hx h0 h2' he
    obtain ⟨_,_,p3⟩:=hrep k x w.is[k] hx (List.getElem?_eq_getElem (by omega))
    obtain ⟨_,p3⟩:=p3
    obtain ⟨_,f3'⟩:=f3
    rcases p3 with p3 | ⟨j,ha,_,hc⟩
    ·exact h0 p3
    ·rcases f3' with f3' | ⟨j',ha',hb',_⟩
     ·exact h2' f3'
     ·rw [ha,ha'] at he; cases he; have:=Own.lt hc; omega
   intro j k x y hjk hx hy' h0 h0'
   by_cases hj:j < n3 <;> by_cases hk:k < n3
   ·rw [List.getElem?_append_left (by omega)] at hx hy'
    exact hsep j k x y hjk hx hy' h0 h0'
   ·have hkg:k=n3:=by have:=(List.getElem?_eq_some_iff.1 hy').1; simp at this; omega
    subst hkg
    rw [List.getElem?_append_left (by omega)] at hx
    rw [List.getElem?_append_right (by omega)] at hy'
    simp [hy] at hy'
    subst hy'
    exact old j x hj hx h0 h0'
   ·have hjg:j=n3:=by have:=(List.getElem?_eq_some_iff.1 hx).1; simp at this; omega
    subst hjg
    rw [List.getElem?_append_left (by omega)] at hy'
    rw [List.getElem?_append_right (by omega)] at hx
    simp [hy] at hx
    subst hx
    exact fun he=>old k y hk hy' h0' h0 he.symm
   ·have:=(List.getElem?_eq_some_iff.1 hx).1
    have:=(List.getElem?_eq_some_iff.1 hy').1
    simp at *
    omega
  ·rcases List.mem_append.1 hx with hx | hx
   ·exact hnn x hx
   ·rw [List.mem_singleton] at hx; subst hx; exact hnn3
 ·apply Zfk.A3x0i
  have:n3=n:=by omega
  subst this
  exact ⟨_,_,_,ys,rfl,hgc,hs,⟨hy,.inr ⟨q,rfl,hql,ho⟩⟩,by omega,by simp,hrep,hsep,hnn,q,rfl,hql,ho⟩
theorem Zyx {h:Zaa} {a0 a1:Pt} {n0 c0 n1 c1:Nat} {e0 e1:Bool} {w:Wd} (r:Zkr h a0 n0 c0 a1 n1 c1 w) (b:WB w) :
  Zak pg Zjh [.agg [.slice a0 n0 c0 e0,.slice a1 n1 c1 e1]] h fun v h'=>∃ b0 d0 f0 b1 d1 f1 ys,v=.agg [.slice b0 n0 d0 f0,.slice b1 n1 d1 f1]∧Zbc h.length h h'∧Zvi h.length h' b0 n0 b1 n1 ys w∧n0≤d0∧n1≤d1∧b0≠none∧b1≠none∧∃ q,b1=some (q,0)∧h.length≤q∧h'[q]?=some (.cells Zad (Zdb eN ys) false):=by
 have hl0:=r.len0
 have hlc:=b.lc
 apply Zqn.call
 simp only [Zaw]
 generalize hh0:h ++ [Zcb.cells Zac [.slice a0 n0 c0 e0,.slice a1 n1 c1 e1] false]=h0
 generalize hh1:h0 ++ [Zcb.cells Zac [.slice none 0 0 true,.slice none 0 0 true] false]=h1
 generalize hh2:h1 ++ [Zcb.cells Zbj [] false]=h2
 have s0:Zbc h.length h h0:=by rw [← hh0]; exact Zal
 have s1:Zbc h0.length h0 h1:=by rw [← hh1]; exact Zal
 have s2:Zbc h1.length h1 h2:=by rw [← hh2]; exact Zal
 have l0:h0.length=h.length + 1:=by rw [← hh0]; simp
 have l1:h1.length=h0.length + 1:=by rw [← hh1]; simp
 have l2:h2.length=h1.length + 1:=by rw [← hh2]; simp
 have x0:h0[h.length]?=some (.cells Zac [.slice a0 n0 c0 e0,.slice a1 n1 c1 e1] false):=by rw [← hh0]; simp
 have y1:h1[h0.length]?=some (.cells Zac [.slice none 0 0 true,.slice none 0 0 true] false):=by rw [← hh1]; simp
 have z2:h2[h1.length]?=some (.cells Zbj [] false):=by rw [← hh2]; simp
 have x2:=s2.get (s1.get x0 (by omega)) (by omega)
 have y2:=s2.get y1 (by omega)
 have S2:=(s0.cat s1).cat s2
 simp only [Zan x2,Nat.zero_add,List.getElem?_cons_succ,List.getElem?_cons_zero,Zaj]
 refine Vec.app0 (n:=0) z2 Yaa Yli Yln Yly (by simp) ((r.same S2).cls.rowOf) (Zjv (enc:=eP) (fun _=>rfl) w.cs) (by omega) (fun h3 hl3 hi3 hk3=>?_)
 have x3:h3[h.length]?=some (.cells Zac [.slice a0 n0 c0 e0,.slice a1 n1 c1 e1] false):=by rw [hk3 _ (by omega) (by omega)]; exact x2
 have y3:h3[h0.length]?=some (.cells Zac [.slice none 0 0 true,.slice none 0 0 true] false):=by rw [hk3 _ (by omega) (by omega)]; exact y2
 have S3:Zbc h.length h h3:=⟨by omega,fun j hj=>by rw [hk3 j (by omega) (by omega)]; exact S2.eq j hj⟩
 simp only [Zaj,Nat.zero_add]
 rw [Zbg x3 (by simp)]
 simp only [Zas,putRow,List.take_zero,List.length_cons,List.length_nil,List.drop_succ_cons,List.drop_zero,List.drop_nil,List.cons_append,List.nil_append,List.append_nil]
 generalize hh4:h3.set h.length (Zcb.cells Zac [.slice (some (h2.length,0)) n0 n0 false,.slice a1 n1 c1 e1] false)=h4
 have x4:h4[h.length]?=some (.cells Zac [.slice (some (h2.length,0)) n0 n0 false,.slice a1 n1 c1 e1] false):=by rw [← hh4]; exact Zce x3
 have y4:h4[h0.length]?=some (.cells Zac [.slice none 0 0 true,.slice none 0 0 true] false):=by rw [← hh4,Zbw (by omega)]; exact y3
 have z4:h4[h2.length]?=some (.cells Zbj (Zdb eP w.cs) false):=by rw [← hh4,Zbw (by omega),hi3]; simp
 have S4:Zbc h.length h h4:=by rw [← hh4]; exact S3.set' (Nat.le_refl _)
 have l4:h4.length=h3.length:=by rw [← hh4]; simp
 simp only [Zan x4,List.getElem?_cons_succ,List.getElem?_cons_zero,Zaj]
 refine (Yjk (r.same S4) b).mono ?_
 rintro v h5 ⟨b1,d1,f1,ys,rfl,hd1,s5,g5,hyl,hbn,hrep,hsep,hnn,qq,hqq1,hqq2,hqq3⟩
 simp only [Zaj]
 have l5:=s5.le
 have x5:=s5.get x4 (by omega)
 have y5:=s5.get y4 (by omega)
 have z5:=s5.get z4 (by omega)
 rw [Zbg x5 (by simp)]
 simp only [Zas,putRow,List.take_succ_cons,List.take_zero,List.length_cons,List.length_nil,List.drop_succ_cons,List.drop_zero,List.drop_nil,List.cons_append,List.nil_append,List.append_nil]
 rw [Zaz (Zce x5)]
 simp only [Zao,Zae,Zam,Zaj]
 have y6:(h5.set h.length (Zcb.cells Zac [.slice (some (h2.length,0)) n0 n0 false,.slice b1 n1 d1 f1] false))[h0.length]?=some (.cells Zac [.slice none 0 0 true,.slice none 0 0 true] false):=by rw [Zbw (by omega)]; exact y5
 rw [Zbg y6 (by simp)]
 simp only [Zas,putRow,List.take_zero,List.length_cons,List.length_nil,List.drop_succ_cons,List.drop_zero,List.drop_nil,List.cons_append,List.nil_append,List.append_nil]
 rw [Zaz (Zce y6)]
 simp only [Zao,Zae,Zam,Zaj]
 have kp:∀ j,h2.length≤j→((h5.set h.length (Zcb.cells Zac [.slice (some (h2.length,0)) n0 n0 false,.slice b1 n1 d1 f1] false)).set h0.length (Zcb.cells Zac [.slice (some (h2.length,0)) n0 n0 false,.slice b1 n1 d1 f1] false))[j]?=h5[j]?:=fun j hj=>by rw [Zbw (by omega),Zbw (by omega)]
 refine ⟨_,_,_,_,_,_,ys,rfl,⟨by simp; omega,fun j hj=>?_⟩,⟨⟨hl0,.inr ⟨h2.length,rfl,by omega,by rw [kp _ (Nat.le_refl _)]; exact z5⟩⟩,g5.keep (by omega) fun j hj _=>kp j (by omega),hyl,fun k x i hx hi=>?_,hsep,hnn,by simp⟩,Nat.le_refl _,hd1,by simp,hbn,qq,hqq1,by omega,by rw [kp qq (by omega)]; exact hqq3⟩
 ·rw [Zbw (by omega),Zbw (by omega),s5.eq j (by omega)]; exact S4.eq j hj
 ·obtain ⟨p1,p2,p3⟩:=hrep k x i hx hi
  exact ⟨p1,p2,p3.keep (by omega) fun j hj _=>kp j (by omega)⟩
end Go.Sim

set_option linter.unusedSimpArgs false
set_option linter.unusedVariables false
namespace Go.Sim
def Xbd:Nat→List Nat→Option (Ty × List Nat)
 | 0,_=>none
 | f + 1,c :: 40 :: r=>(match Xbd f r with
  | some (a,41 :: r')=>some (.u c a,r')
  | some (a,44 :: r')=>(match Xbd f r' with | some (b,41 :: r'')=>some (.w c a b,r'') | _=>none)
  | _=>none)
 | f + 1,c :: r=>some (.k c,r)
 | _,[]=>none
def Ywi (s:List Nat):Bool:=match Xbd 30 s with | some (t,[])=>t.ok && decide (t.txt=s) && decide (s.length≤60) | _=>false
theorem Ylq {s:List Nat} (h:Ywi s=true):Zor s=true:=by
 unfold Ywi at h
 split at h
 ·rename_i t _
  simp only [Bool.and_eq_true,decide_eq_true_eq] at h
  exact Zur.2 ⟨t,h.1.1,h.1.2.symm,h.2⟩
 ·cases h
def Ykw (cs:List Nd) (t:List Nat) (n:Nd):Bool:=Zgg cs n.1 && Ywi n.2 && decide (n.2.length≤20) && (Zre n.2).all fun v=>decide (v∈t)
def Yql (cs:List Nd) (i:Ins):Bool:=Zir cs && Zgg cs i.1.1 && Ywi i.1.2 && decide (i.1.2.length≤20) && !Zme i.1.2 && decide (i.2.length≤3) && i.2.all (Ykw cs i.1.2)
def Yfq (w:Wd):Bool:=Zir w.cs && decide (w.is.length≤10) && w.is.all (Yql w.cs)
theorem Ypb {cs:List Nd} {t:List Nat} {n:Nd} (h:Ykw cs t n=true):Zks cs t n=true:=by
 unfold Ykw at h
 unfold Zks
 simp only [Bool.and_eq_true] at h ⊢
 exact ⟨⟨⟨h.1.1.1,Ylq h.1.1.2⟩,h.1.2⟩,h.2⟩
theorem Yrm {cs:List Nd} {i:Ins} (h:Yql cs i=true):Zoz cs i=true:=by
 unfold Yql at h
 unfold Zoz
 simp only [Bool.and_eq_true,List.all_eq_true] at h ⊢
 exact ⟨⟨⟨⟨⟨⟨h.1.1.1.1.1.1,h.1.1.1.1.1.2⟩,Ylq h.1.1.1.1.2⟩,h.1.1.1.2⟩,h.1.1.2⟩,h.1.2⟩,fun n hn=>Ypb (h.2 n hn)⟩
theorem Ykh {w:Wd} (h:Yfq w=true):Zda w=true:=by
 unfold Yfq at h
 unfold Zda
 simp only [Bool.and_eq_true,List.all_eq_true] at h ⊢
 exact ⟨h.1,fun i hi=>Yrm (h.2 i hi)⟩
end Go.Sim

set_option linter.unusedSimpArgs false
set_option linter.unusedVariables false
namespace Go.Sim
def Yfx (s:List Nat):Nd:=match s with | c :: d :: e :: r=>if d=60 then ([c],e :: r) else (s,[]) | _=>(s,[])
noncomputable def Yed (s:List Nat):Option Ins:=
 match Zcx 58 s with
 | [a]=>(Zoa a).map fun n=>(n,[])
 | [a,b]=>(Zoa a).bind fun n=>((Zcx 38 b).mapM Zoa).map fun l=>(n,l)
 | _=>none
def Ytv:Wd:=⟨[],[]⟩
noncomputable def wdQ (w:Wd):Wd:=if Zda w then w else Ytv
noncomputable def wdP (s:List Nat):Wd:=
 match ((Zcx 59 s).drop 1).mapM Yed with
 | some l=>wdQ ⟨(Zcx 32 ((Zcx 59 s).headD [])).map Yfx,l⟩
 | none=>Ytv
structure WS (m:Nat) (w:Wd):Prop where
 lc:w.cs.length≤m
 li:w.is.length≤m
 cs:∀ p∈w.cs,p.1.length≤1000∧p.2.length≤1000∧∀ b∈p.1,b < 256
 is:∀ i∈w.is,i.1.1.length≤1000∧i.1.2.length≤1000∧i.2.length≤1000∧∀ p∈i.2,p.1.length≤1000∧p.2.length≤1000
theorem WS.mono {m n:Nat} {w:Wd} (s:WS m w) (h:m≤n):WS n w:=⟨by have:=s.lc; omega,by have:=s.li; omega,s.cs,s.is⟩
theorem Yzv {m:Nat}:WS m Ytv:=⟨by simp [Ytv],by simp [Ytv],by simp [Ytv],by simp [Ytv]⟩
theorem WS.addI {m:Nat} {w:Wd} (s:WS m w) {i:Ins} (h:i.1.1.length≤1000∧i.1.2.length≤1000∧i.2.length≤1000∧∀ p∈i.2,p.1.length≤1000∧p.2.length≤1000):WS (m + 1) ⟨w.cs,w.is ++ [i]⟩:=
 ⟨by have:=s.lc; simp; omega,by have:=s.li; simp; omega,s.cs,fun j hj=>by
  rcases List.mem_append.1 hj with hj | hj
  ·exact s.is j hj
  ·rw [List.mem_singleton] at hj; subst hj; exact h⟩
theorem WS.addC {m:Nat} {w:Wd} (s:WS m w) {p:Nd} (h:p.1.length≤1000∧p.2.length≤1000∧∀ b∈p.1,b < 256):WS (m + 1) ⟨w.cs ++ [p],w.is⟩:=
 ⟨by have:=s.lc; simp; omega,by have:=s.li; simp; omega,fun q hq=>by
  rcases List.mem_append.1 hq with hq | hq
  ·exact s.cs q hq
  ·rw [List.mem_singleton] at hq; subst hq; exact h,s.is⟩
theorem Ylm {s:List Nat}:(Yfx s).1.length≤s.length∧(Yfx s).2.length≤s.length:=by
 unfold Yfx
 split
 ·split <;> simp <;> omega
 ·simp
theorem Yhs {s:List Nat} (h:∀ b∈s,b < 256):∀ b∈(Yfx s).1,b < 256:=by
 unfold Yfx
 split
 ·split
  ·intro b hb; rw [List.mem_singleton] at hb; subst hb; exact h _ (by simp)
  ·exact h
 ·exact h
theorem Zjo {c:Nat}:∀ {s:List Nat},(∀ b∈s,b < 256)→∀ p∈Zcx c s,∀ b∈p,b < 256
 | [],_=>by intro p hp; simp [Zcx] at hp; simp [hp]
 | x :: s,hb=>by
  have ih:=Zjo (c:=c) (s:=s) fun b h=>hb b (by simp [h])
  intro p hp
  simp only [Zcx] at hp
  by_cases hx:x=c
  ·simp only [hx,if_true] at hp
   rcases List.mem_cons.1 hp with rfl | hp
   ·simp
   ·exact ih p hp
  ·simp only [if_neg hx] at hp
   cases hs:Zcx c s with
   | nil=>exact absurd hs (Zrh c s)
   | cons q r=>
    rw [hs] at hp ih
    rcases List.mem_cons.1 hp with rfl | hp
    ·intro b hbm
     rcases List.mem_cons.1 hbm with rfl | hbm
     ·exact hb _ (by simp)
     ·exact ih q (by simp) b hbm
    ·exact ih p (by simp [hp])
theorem Yab {α β:Type} {f:α→Option β}:∀ {l:List α} {r:List β},l.mapM f=some r→r.length=l.length∧∀ y∈r,∃ x∈l,f x=some y
 | [],r,h=>by simp at h; subst h; exact ⟨rfl,by simp⟩
 | a :: l,r,h=>by
  simp only [List.mapM_cons] at h
  cases hf:f a with
  | none=>rw [hf] at h; cases h
  | some y=>
   rw [hf] at h
   cases hl:l.mapM f with
   | none=>rw [hl] at h; cases h
   | some ys=>
    rw [hl] at h; simp at h; subst h
    obtain ⟨h1,h2⟩:=Yab hl
    refine ⟨by simp [h1],fun z hz=>?_⟩
    rcases List.mem_cons.1 hz with rfl | hz
    ·exact ⟨a,by simp,hf⟩
    ·obtain ⟨x,hx,hy⟩:=h2 z hz; exact ⟨x,by simp [hx],hy⟩
theorem Zjp {c:Nat} (s:List Nat):(Zcx c s).length≤s.length + 1:=by rw [Zmv]; have:=List.count_le_length (a:=c) (l:=s); omega
theorem Yec {s:List Nat} {i:Ins} (hs:s.length≤900) (h:Yed s=some i):i.1.1.length≤1000∧i.1.2.length≤1000∧i.2.length≤1000∧∀ p∈i.2,p.1.length≤1000∧p.2.length≤1000:=by
 unfold Yed at h
 split at h
 ·rename_i a ha
  cases hn:Zoa a with
  | none=>rw [hn] at h; cases h
  | some n=>
   rw [hn] at h; cases h
   have:=Ybk hn
   simp only
   exact ⟨by omega,by omega,by simp,by simp⟩
 ·rename_i a b ha
  cases hn:Zoa a with
  | none=>rw [hn] at h; cases h
  | some n=>
   rw [hn] at h
   simp only [Option.bind_some] at h
   cases hl:(Zcx 38 b).mapM Zoa with
   | none=>rw [hl] at h; cases h
   | some l=>
    rw [hl] at h; cases h
    have:=Ybk hn
    obtain ⟨h1,h2⟩:=Yab hl
    have hb:b.length≤s.length:=Zig (c:=58) (by rw [ha]; simp)
    have h3:=Zjp (c:=38) b
    simp only
    refine ⟨by omega,by omega,by omega,fun p hp=>?_⟩
    obtain ⟨x,_,hx⟩:=h2 p hp
    have:=Ybk hx
    omega
 ·cases h
theorem Yaz {s:List Nat} (hs:s.length≤900) (hb:∀ b∈s,b < 256):WS 1000 (wdP s):=by
 unfold wdP
 split
 ·rename_i l hl
  obtain ⟨h1,h2⟩:=Yab hl
  unfold wdQ
  split
  ·have hhd:(Zcx 59 s).headD []∈Zcx 59 s:=by
    cases hx:Zcx 59 s with
    | nil=>exact absurd hx (Zrh 59 s)
    | cons a r=>simp
   have hh:=Zig hhd
   have hhb:=Zjo hb _ hhd
   refine ⟨?_,?_,fun p hp=>?_,fun i hi=>?_⟩
   ·have:=Zjp (c:=32) ((Zcx 59 s).headD []); simp only [List.length_map]; omega
   ·have:=Zjp (c:=59) s; simp only [h1,List.length_drop]; omega
   ·simp only [List.mem_map] at hp
    obtain ⟨q,hq,rfl⟩:=hp
    have:=Zig hq
    have h3:=Ylm (s:=q)
    exact ⟨by omega,by omega,Yhs (Zjo hhb q hq)⟩
   ·obtain ⟨x,hx,he⟩:=h2 i hi
    have:=Zig (List.mem_of_mem_drop hx)
    exact Yec (by omega) he
  ·exact Yzv
 ·exact Yzv
def Zwu:List (List Nat):=[[69],[69,32,79,60,69],[65,32,66],[65,32,66,60,65,32,67,60,65,66],[69,32,79,60,69,32,83]]
theorem Yxb:∀ s∈Zwu,(wdP s).cs≠[]∧(wdP s).is=[]:=by
 have key:∀ s,(Zcx 59 s)=[s]→Yfq ⟨(Zcx 32 s).map Yfx,[]⟩=true→(wdP s).cs≠[]∧(wdP s).is=[]:=by
  intro s h1 h2
  unfold wdP
  rw [h1]
  simp only [List.drop_succ_cons,List.drop_zero,List.mapM_nil,List.headD_cons]
  rw [show (pure []:Option (List Ins))=some [] from rfl]
  simp only
  unfold wdQ
  rw [if_pos (Ykh h2)]
  refine ⟨?_,rfl⟩
  intro h
  have:=congrArg List.length h
  simp only [List.length_map,Zmv,List.length_nil] at this
  omega
 intro s hs
 simp only [Zwu,List.mem_cons,List.not_mem_nil,or_false] at hs
 rcases hs with rfl | rfl | rfl | rfl | rfl <;> exact key _ (by decide) (by decide)
end Go.Sim
