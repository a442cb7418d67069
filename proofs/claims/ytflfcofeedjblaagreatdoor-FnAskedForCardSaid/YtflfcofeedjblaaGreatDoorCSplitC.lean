/- A part of the proof of a statement of this seat: see the text that holds the theorem. No condition. -/
import Derived.Test.YtflfcofeedjblaaGreatDoorPTCInN
import Derived.Test.YtflfcofeedjblaaGreatDoorCSTy
import Derived.Test.YtflfcofeedjblaaGreatDoorCMost
import Derived.Test.YtflfcofeedjblaaGreatDoorCFind
import Derived.Test.YtflfcofeedjblaaGreatDoorCWVar2
import Derived.Test.YtflfcofeedjblaaGreatDoorCAsked
import Derived.Test.YtflfcofeedjblaaGreatDoorNm
set_option linter.unusedVariables false
set_option linter.unusedSimpArgs false
set_option linter.all false
set_option linter.unusedVariables false
set_option linter.unusedSimpArgs false
set_option maxRecDepth 20000
namespace Go.Sim
open Go Go.RowKit

def eB (b:Nat):List Zay:=[.int .u8 (b:Int)]
theorem Yil (x:Nat):(eB x).length=1:=rfl
def Rdr (h:Zaa) (i p:Nat):Prop:=∃ a n c e,∃ l:List Nat,h[i]?=some (.cells Zqm [.slice a n c e,.int .i64 (p:Int)] false)∧Row i h a n (Zdb eB l)∧(∀ b∈l,b < 256)∧n≤2000
theorem Rdr.agree {h h':Zaa} {i p:Nat} (r:Rdr h i p) (hh:∀ j,j≤i→h'[j]?=h[j]?) (hl:h.length≤h'.length):Rdr h' i p:=by
 obtain ⟨a,n,c,e,l,hi,hr,hb,hn⟩:=r
 exact ⟨a,n,c,e,l,by rw [hh i (Nat.le_refl _)]; exact hi,hr.same ⟨hl,fun j hj=>hh j (by omega)⟩,hb,hn⟩
theorem Rdr.lt {h:Zaa} {i p:Nat} (r:Rdr h i p):i < h.length:=by obtain ⟨a,n,c,e,l,hi,_⟩:=r; exact Own.lt hi
theorem Rdr.same {h h':Zaa} {i p:Nat} (r:Rdr h i p) (s:Zbc h.length h h'):Rdr h' i p:=r.agree (fun j hj=>s.eq j (by have:=r.lt; omega)) s.le
theorem Rdr.app {h:Zaa} {i p:Nat} (r:Rdr h i p) (l:Zaa):Rdr (h ++ l) i p:=r.same (Zbc.app (Nat.le_refl _) _)
theorem Ydk {h:Zaa} {a:Pt} {n c:Nat} {e:Bool} {l:List Nat} (r:Row h.length h a n (Zdb eB l)) (hb:∀ b∈l,b < 256) (hnc:n≤c):Zak pg Zlf [.slice a n c e] h fun v h'=>v=.ptr (some (h.length,0))∧Zbc h.length h h'∧Rdr h' h.length 0∧h'.length=h.length + 1:=by
 have hl:l.length=n:=by have:=r.1; rw [Zat Yil] at this; omega
 apply Znr.call
 have fin:∀ (a:Pt) (n c:Nat) (e:Bool) (l:List Nat),Row h.length h a n (Zdb eB l)→(∀ b∈l,b < 256)→n≤2000→Znr.J3 (fun v h'=>v=.ptr (some (h.length,0))∧Zbc h.length h h'∧Rdr h' h.length 0∧h'.length=h.length + 1) a n c e h:=by
  intro a n c e l r hb hn
  apply Znr.J3i
  simp only [Zaw]
  exact ⟨by trivial,Zbc.app (Nat.le_refl _) _,⟨a,n,c,e,l,by simp,r.same (Zbc.app (Nat.le_refl _) _),hb,hn⟩,by simp⟩
 refine Zar (fun hgt=>?_) (fun hle=>fin a n c e l r hb (by omega))
 have hcut:Row h.length h a 2000 (Zdb eB (l.take 2000)):=by
  obtain ⟨h1,h2⟩:=r
  have hlen:(Zdb eB (l.take 2000)).length=2000:=by rw [Zat Yil,List.length_take]; omega
  refine ⟨hlen,.inr ?_⟩
  rcases h2 with h0 | ⟨i,o,t,all,ro,ha,hi,hg,hle,hcs⟩
  ·omega
  ·refine ⟨i,o,t,all,ro,ha,hi,hg,by omega,?_⟩
   have:=Yja (enc:=eB) Yil l 2000
   rw [Nat.mul_one] at this
   rw [← this,hcs,List.take_take,Nat.min_eq_left (by omega)]
 obtain ⟨_,h2⟩:=r
 rcases h2 with h0 | ⟨i,o,t,all,ro,ha,hi,hg,hle,hcs⟩
 ·omega
 ·subst ha
  simp only [Zhw,Zlv]
  refine ⟨by omega,fun hlt=>?_,fun hno=>by omega⟩
  simp only [Zaj]
  have e1:o + Int.toNat 0 * 1=o:=by simp
  have e2:((2000:Int) - 0).toNat=2000:=by omega
  rw [e1,e2]
  exact fin _ _ _ _ _ hcut (fun b hb'=>hb b (List.mem_of_mem_take hb')) (by omega)
theorem Yzl {x:Int} (h0:0≤x) (h1:x < 4611686018427387904):0≤IntKind.wrap .i64 ((BitVec.ofInt (IntKind.bits .i64) x ^^^ BitVec.ofInt (IntKind.bits .i64) (IntKind.wrap .i64 (Int.tdiv x 64))).toNat):=by
 obtain ⟨n,rfl⟩:∃ n:Nat,x=n:=⟨x.toNat,by omega⟩
 have hd:Int.tdiv (n:Int) 64=((n / 64:Nat):Int):=by rw [Int.tdiv_eq_ediv_of_nonneg (by omega)]; omega
 rw [hd,IntWalk.i64_in ((n / 64:Nat):Int) (by omega)]
 have hx:((BitVec.ofInt (IntKind.bits .i64) (n:Int)) ^^^ (BitVec.ofInt (IntKind.bits .i64) ((n / 64:Nat):Int))).toNat=n ^^^ (n / 64):=by
  rw [BitVec.toNat_xor,BitVec.toNat_ofInt,BitVec.toNat_ofInt]
  have e1:((n:Int) % ((2 ^ (IntKind.bits .i64):Nat):Int)).toNat=n:=by simp only [IntKind.bits]; omega
  have e2:(((n / 64:Nat):Int) % ((2 ^ (IntKind.bits .i64):Nat):Int)).toNat=n / 64:=by simp only [IntKind.bits]; omega
  rw [e1,e2]
 rw [hx]
 have hlt:n ^^^ (n / 64) < 2 ^ 62:=Nat.xor_lt_two_pow (by omega) (by omega)
 rw [IntWalk.i64_in _ (by omega)]; omega
theorem Zyo {x n:Int} (h0:0≤x) (hn:1≤n):0≤Int.tmod x n∧Int.tmod x n < n:=by
 rw [Int.tmod_eq_emod_of_nonneg h0]; exact ⟨Int.emod_nonneg _ (by omega),Int.emod_lt_of_pos _ (by omega)⟩
theorem Zdd {h:Zaa} {i p:Nat} (r:Rdr h i p) (hp:p≤1000000000000) (n:Int):Zak pg Zbh [.ptr (some (i,0)),.int .i64 n] h fun v h'=>
  ∃ x,v=.int .i64 x∧0≤x∧(1≤n→x < n)∧(n < 1→x=0)∧Zem i h h'∧Rdr h' i (p + 1)∧h'.length=h.length:=by
 obtain ⟨a,m,c,e,l,hi,hr,hb,hm⟩:=r
 have hl:l.length=m:=by have:=hr.1; rw [Zat Yil] at this; omega
 apply Znm.call
 simp only [Zau,Zan hi,Nat.zero_add,List.getElem?_cons_zero,List.getElem?_cons_succ,Zax]
 rw [IntWalk.i64_in _ (by omega),Zbg hi (by simp)]
 simp only [Zas]
 generalize hge:h.set i (Zcb.cells Zqm (putRow [.slice a m c e,.int .i64 (p:Int)] 1 [.int .i64 ((p:Int) + 1)]) false)=h2
 have h2i:h2[i]?=some (.cells Zqm [.slice a m c e,.int .i64 ((p:Int) + 1)] false):=by rw [← hge,Zce hi]; simp [putRow]
 have hK:Zem i h h2:=by rw [← hge]; exact Zem.set _ _ _
 have h2l:h2.length=h.length:=by rw [← hge]; simp
 have hr2:Row i h2 a m (Zdb eB l):=hr.same ⟨by omega,fun j hj=>by rw [← hge,Zbw (by omega)]⟩
 have hR2:Rdr h2 i (p + 1):=⟨a,m,c,e,l,by rw [h2i]; simp,hr2,hb,hm⟩
 refine Zar (fun hlt=>⟨0,rfl,by omega,by omega,fun _=>rfl,hK,hR2,h2l⟩) (fun hge1=>?_)
 simp only [Zan h2i,Nat.zero_add,List.getElem?_cons_zero,Zaj]
 refine Zcw (fun h0=>⟨0,rfl,by omega,by omega,fun _=>rfl,hK,hR2,h2l⟩) (fun hne=>?_)
 have hm0:0 < m:=by omega
 have cell:∀ k,k < m→∃ ii o,∃ hk:k < l.length,a=some (ii,o)∧Zag h2 (.ptr (some (ii,o + k * 1)))=some (.int .u8 (l[k]:Int)):=by
  intro k hk
  obtain ⟨ii,o,hk',ha,_,hc⟩:=Row.el1 Yil hr2 hk
  exact ⟨ii,o,hk',ha,hc⟩
 apply Znm.J4i
 simp only [Zau,Zan h2i,Nat.zero_add,List.getElem?_cons_zero,List.getElem?_cons_succ,Zax,Zaj]
 rw [show (p:Int) + 1 - 1=p by omega,IntWalk.i64_in (p:Int) (by omega)]
 refine Zar (fun hlt=>?_) (fun hge2=>?_)
 ·obtain ⟨ii,o,hk,rfl,hc⟩:=cell p (by omega)
  simp only [Zau,Int.toNat_natCast,hc,Zax]
  have hbb:=hb _ (List.getElem_mem hk)
  rw [IntWalk.i64_in _ (by omega)]
  have:=Zyo (x:=(l[p]:Int)) (n:=n) (by omega) (by omega)
  exact ⟨by omega,by omega,_,rfl,this.1,fun _=>this.2,by omega,hK,hR2,h2l⟩
 ·have t1:=Zyo (x:=(p:Int)) (n:=(m:Int)) (by omega) (by omega)
  have e1:Int.tmod (p:Int) (m:Int)=((p % m:Nat):Int):=by rw [Int.tmod_eq_emod_of_nonneg (by omega)]; omega
  have e2:IntKind.wrap .i64 ((p:Int) * 7)=((p * 7:Nat):Int):=by rw [IntWalk.i64_in _ (by omega)]; omega
  have e3:IntKind.wrap .i64 (((p * 7:Nat):Int) + 3)=((p * 7 + 3:Nat):Int):=by rw [IntWalk.i64_in _ (by omega)]; omega
  have e4:Int.tmod ((p * 7 + 3:Nat):Int) (m:Int)=(((p * 7 + 3) % m:Nat):Int):=by rw [Int.tmod_eq_emod_of_nonneg (by omega)]; omega
  rw [e1,e2,e3,e4]
  obtain ⟨ii,o,hk,rfl,hc⟩:=cell (p % m) (Nat.mod_lt _ hm0)
  obtain ⟨ii',o',hk',ha',hc'⟩:=cell ((p * 7 + 3) % m) (Nat.mod_lt _ hm0)
  obtain ⟨rfl,rfl⟩:ii=ii'∧o=o':=by simpa using ha'
  have b1:=hb _ (List.getElem_mem hk)
  have b2:=hb _ (List.getElem_mem hk')
  have m1:=Nat.mod_lt p hm0
  have m2:=Nat.mod_lt (p * 7 + 3) hm0
  simp only [Zau,Int.toNat_natCast,hc,hc',Zax]
  refine ⟨by omega,by omega,by omega,by omega,by trivial,by trivial,by trivial,by trivial,by trivial,by trivial,by omega,by omega,by omega,?_⟩
  have e5:Int.tdiv (p:Int) (m:Int)=((p / m:Nat):Int):=by rw [Int.tdiv_eq_ediv_of_nonneg (by omega)]; omega
  have m3:p / m≤p:=Nat.div_le_self _ _
  generalize hA:((l[p % m]:Nat):Int)=A
  generalize hB:((l[(p * 7 + 3) % m]:Nat):Int)=B
  have hD1:0≤((p / m:Nat):Int)∧((p / m:Nat):Int)≤(p:Int):=⟨Int.natCast_nonneg _,Int.ofNat_le.2 m3⟩
  generalize ((p / m:Nat):Int)=D at e5 hD1
  have hA1:0≤A∧A < 256:=by omega
  have hB1:0≤B∧B < 256:=by omega
  rw [e5,IntWalk.i64_in A (by omega),IntWalk.i64_in B (by omega),IntWalk.i64_in (A * 131) (by omega),IntWalk.i64_in (B * 1117) (by omega),IntWalk.i64_in (A * 131 + B * 1117) (by omega),IntWalk.i64_in ((p:Int) * 29) (by omega),
   IntWalk.i64_in (A * 131 + B * 1117 + (p:Int) * 29) (by omega),IntWalk.i64_in D (by omega),IntWalk.i64_in (D * 53) (by omega),IntWalk.i64_in (A * 131 + B * 1117 + (p:Int) * 29 + D * 53) (by omega)]
  have hx:=Yzl (x:=A * 131 + B * 1117 + (p:Int) * 29 + D * 53) (by omega) (by omega)
  have:=Zyo hx (by omega:1≤n)
  exact ⟨_,rfl,this.1,fun _=>this.2,by omega,hK,hR2,h2l⟩
theorem Yup {h:Zaa} {i p j n c:Nat} {e:Bool} {t:TypeId} {l:List Int} (r:Rdr h i p) (hp:p≤1000000000000) (hj:h[j]?=some (.cells t (Zdb eI l) false)) (hji:j≠i) (hn:l.length=n) (h0:1≤n) :
  Zak pg Zfm [.ptr (some (i,0)),.slice (some (j,0)) n c e] h fun v h'=>∃ x∈l,v=.int .i64 x∧Zem i h h'∧Rdr h' i (p + 1)∧h'.length=h.length:=by
 apply Ztd.call
 refine (Zdd r hp n).mono ?_
 rintro v h2 ⟨x,rfl,h0x,hlt,_,hK,hR,hl⟩
 simp only [Zax,Zau]
 have hlt:=hlt (by omega)
 obtain ⟨k,rfl⟩:∃ k:Nat,x=k:=⟨x.toNat,by omega⟩
 have hj2:h2[j]?=some (.cells t (Zdb eI l) false):=by rw [hK.eq j (Own.lt hj) hji]; exact hj
 have hrow:Row h2.length h2 (some (j,0)) n (Zdb eI l):=⟨by rw [Zat Zre]; omega,.inr ⟨j,0,t,_,false,rfl,Own.lt hj2,hj2,by rw [Zat Zre]; omega,by rw [List.drop_zero,List.take_of_length_le (by rw [Zat Zre]; omega)]⟩⟩
 obtain ⟨ii,o,hk,ha,_,hc⟩:=Row.el1 Zre hrow (k:=k) (by omega)
 cases ha
 rw [Int.toNat_natCast,hc]
 simp only [eI,List.getElem?_cons_zero,Zax]
 exact ⟨by omega,l[k],List.getElem_mem hk,rfl,hK,hR,hl⟩
theorem Znk {h:Zaa} {i p j n c:Nat} {e:Bool} {t:TypeId} {l:List (List Nat)} (r:Rdr h i p) (hp:p≤1000000000000) (hj:h[j]?=some (.cells t (Zdb eS l) false)) (hji:j≠i) (hn:l.length=n) (h0:1≤n) :
  Zak pg Zck [.ptr (some (i,0)),.slice (some (j,0)) n c e] h fun v h'=>∃ x∈l,v=.str x∧Zem i h h'∧Rdr h' i (p + 1)∧h'.length=h.length:=by
 apply Zue.call
 refine (Zdd r hp n).mono ?_
 rintro v h2 ⟨x,rfl,h0x,hlt,_,hK,hR,hl⟩
 simp only [Zax,Zau]
 have hlt:=hlt (by omega)
 obtain ⟨k,rfl⟩:∃ k:Nat,x=k:=⟨x.toNat,by omega⟩
 have hj2:h2[j]?=some (.cells t (Zdb eS l) false):=by rw [hK.eq j (Own.lt hj) hji]; exact hj
 have hrow:Row h2.length h2 (some (j,0)) n (Zdb eS l):=⟨by rw [Zat Zna]; omega,.inr ⟨j,0,t,_,false,rfl,Own.lt hj2,hj2,by rw [Zat Zna]; omega,by rw [List.drop_zero,List.take_of_length_le (by rw [Zat Zna]; omega)]⟩⟩
 obtain ⟨ii,o,hk,ha,_,hc⟩:=Row.el1 Zna hrow (k:=k) (by omega)
 cases ha
 rw [Int.toNat_natCast,hc]
 simp only [eS,List.getElem?_cons_zero,Zah]
 exact ⟨by omega,l[k],List.getElem_mem hk,rfl,hK,hR,hl⟩
theorem Rdr.keep {h h':Zaa} {i p:Nat} (r:Rdr h i p) (hh:∀ j,j≤i→h'[j]?=h[j]?) (hl:h.length≤h'.length):Rdr h' i p:=r.agree hh hl
end Go.Sim

set_option linter.unusedVariables false
set_option linter.unusedSimpArgs false
set_option maxRecDepth 20000
namespace Go.Sim
open Go Go.RowKit

theorem Ymf {h:Zaa} {i p:Nat} (r:Rdr h i p) (hp:p≤1000000000000) (g:Bool) (Q:QT) (hQ:∀ c h',Zoo c=true→Zem i h h'→Rdr h' i (p + 1)→Q (.str [c]) h') :
  bcase g (Zcf (h ++ [.cells Zbi [.str [105],.str [98],.str [105],.str [117]] false]) fun h_0=>Zak pg Zck [.ptr (some (i,0)),.slice (some (List.length h,0)) 4 4 true] h_0 fun v_1 h_2=>
 Zbd (some v_1) fun s_3=>Q (.str s_3) h_2) (Zcf (h ++ [.cells Zbi [.str [120],.str [105],.str [121],.str [98],.str [120],.str [122],.str [117]] false]) fun h_4=>Zak pg Zck [.ptr (some (i,0)),.slice (some (List.length h,0)) 7 7 true] h_4 fun v_5 h_6=>
 Zbd (some v_5) fun s_7=>Q (.str s_7) h_6):=by
 have hil:=r.lt
 have go:∀ (l:List (List Nat)) (n:Nat),l.length=n→1≤n→(∀ x∈l,∃ c,x=[c]∧Zoo c=true)→Zcf (h ++ [.cells Zbi (Zdb eS l) false]) fun h_0=>Zak pg Zck [.ptr (some (i,0)),.slice (some (List.length h,0)) n n true] h_0 fun v_1 h_2=>Zbd (some v_1) fun s_3=>Q (.str s_3) h_2:=by
  intro l n hn h1 hl
  simp only [Zaw]
  refine (Znk (r.app _) hp (j:=h.length) (t:=Zbi) (l:=l) (by simp) (by omega) hn h1).mono ?_
  rintro v h2 ⟨x,hx,rfl,hK,hR,_⟩
  obtain ⟨c,rfl,hc⟩:=hl x hx
  simp only [Zah]
  exact hQ c h2 hc ((Zem.app i h _).trans hK) hR
 cases g with
 | true=>exact go [[105],[98],[105],[117]] 4 rfl (by omega) (by intro x hx; simp at hx; rcases hx with rfl | rfl | rfl | rfl <;> exact ⟨_,rfl,rfl⟩)
 | false=>exact go [[120],[105],[121],[98],[120],[122],[117]] 7 rfl (by omega) (by intro x hx; simp at hx; rcases hx with rfl | rfl | rfl | rfl | rfl | rfl | rfl <;> exact ⟨_,rfl,rfl⟩)
def DrQ (i p d:Nat) (h:Zaa) (v:Zay) (h':Zaa):Prop:=∃ t:Ty,v=.str t.txt∧t.ok=true∧t.txt.length≤4 ^ (d + 1)∧Zem i h h'∧∃ p',p≤p'∧p'≤p + 4 ^ (d + 1)∧Rdr h' i p'
theorem Zwt:∀ (d:Nat),d≤8→∀ {h:Zaa} {i p:Nat},Rdr h i p→p + 4 ^ (d + 1)≤1000000000000→∀ (g:Bool),Zak pg Zfx [.ptr (some (i,0)),.int .i64 (d:Int),.bool g] h (DrQ i p d h):=by
 intro d
 induction d with
 | zero=>
  intro _ h i p r hp g
  apply Zox.call
  refine Zcw (fun _=>?_) (fun hne=>absurd rfl hne)
  exact Ymf r (by omega) g (DrQ i p 0 h) fun c h' hc hK hR=>⟨.k c,rfl,by simpa [Ty.ok] using hc,by simp [Ty.txt],hK,p + 1,by omega,by omega,hR⟩
 | succ d ih=>
  intro hd h i p r hp g
  have hB:4 ^ (d + 1 + 1)=4 * 4 ^ (d + 1):=by rw [Nat.pow_succ]; omega
  have hB1:4≤4 ^ (d + 1):=by rw [Nat.pow_succ]; have:=Nat.one_le_two_pow (n:=0); have:1≤4 ^ d:=Nat.one_le_pow _ _ (by omega); omega
  have hB2:4 ^ (d + 1)≤1000000000000:=by omega
  generalize hBB:4 ^ (d + 1)=B at *
  apply Zox.call
  refine Zcw (fun he=>by omega) (fun _=>?_)
  refine (Zdd r (by omega) 3).mono ?_
  rintro v h1 ⟨x,rfl,hx0,hx1,_,K1,R1,_⟩
  simp only [Zax]
  refine Zcw (fun _=>?_) (fun _=>?_)
  ·exact Ymf R1 (by omega) g (DrQ i p (d + 1) h) fun c h' hc hK hR=>⟨.k c,rfl,by simpa [Ty.ok] using hc,by rw [hB]; simp [Ty.txt]; omega,K1.trans hK,p + 1 + 1,by omega,by omega,hR⟩
  ·apply Zox.J5i
   refine (Zdd R1 (by omega) 4).mono ?_
   rintro v h2 ⟨x,rfl,hx0,hx1,_,K2,R2,_⟩
   have hw:IntKind.wrap .i64 (((d + 1:Nat):Int) - 1)=(d:Int):=by rw [IntWalk.i64_in _ (by omega)]; omega
   have K12:=K1.trans K2
   simp only [Zax]
   rw [hw]
   have one:∀ (c:Nat),(c=109 ∨ c=108)→Zak pg Zfx [.ptr (some (i,0)),.int .i64 (d:Int),.bool g] h2 fun v_28 h_29=>
     Zbd (some v_28) fun s_30=>List.length ([c,40]) + List.length s_30≤9223372036854775807∧(List.length (([c,40]) ++ s_30) + List.length [41]≤9223372036854775807∧(DrQ i p (d + 1) h (.str ((([c,40]) ++ s_30) ++ [41])) h_29)):=by
    intro c hc
    refine (ih (by omega) R2 (by omega) g).mono ?_
    rintro v h3 ⟨t,rfl,hok,hlen,K3,p3,hp1,hp2,R3⟩
    rw [hBB] at hlen hp2
    simp only [Zah]
    refine ⟨by simp; omega,by simp; omega,.u c t,by simp [Ty.txt],?_,?_,K12.trans K3,p3,by omega,by omega,R3⟩
    ·simp only [Ty.ok,hok,Bool.and_true]; rcases hc with rfl | rfl <;> rfl
    ·rw [hB]; simp [Ty.txt]; omega
   refine Zcw (fun _=>?_) (fun _=>Zcw (fun _=>one 109 (.inl rfl)) (fun _=>one 108 (.inr rfl)))
   refine (ih (by omega) R2 (by omega) g).mono ?_
   rintro v h3 ⟨t,rfl,hok,hlen,K3,p3,hp1,hp2,R3⟩
   rw [hBB] at hlen hp2
   simp only [Zah]
   refine ⟨by simp; omega,by simp; omega,?_⟩
   refine (ih (by omega) R3 (by omega) g).mono ?_
   rintro v h4 ⟨t2,rfl,hok2,hlen2,K4,p4,hp3,hp4,R4⟩
   rw [hBB] at hlen2 hp4
   simp only [Zah]
   refine ⟨by simp; omega,by simp; omega,.w 112 t t2,by simp [Ty.txt],by simp [Ty.ok,hok,hok2],?_,(K12.trans K3).trans K4,p4,by omega,by omega,R4⟩
   rw [hB]; simp [Ty.txt]; omega
def TxQ (i p:Nat) (h:Zaa) (v:Zay) (h':Zaa):Prop:=∃ s:List Nat,v=.str s∧s.length≤1000∧Zem i h h'∧∃ p',p≤p'∧p'≤p + 1000∧Rdr h' i p'
theorem Ykr (s:List Nat) (a b:Int):(sub s a b).length≤s.length:=by unfold sub; simp; omega
theorem Yvb {h:Zaa} {i p:Nat} (r:Rdr h i p) (hp:p≤900000000000):Zak pg Ztv [.ptr (some (i,0))] h (TxQ i p h):=by
 apply Zyt.call
 refine (Zdd r (by omega) 4).mono ?_
 rintro v h1 ⟨x,rfl,hx0,hx1,_,K1,R1,_⟩
 have hx1:=hx1 (by omega)
 simp only [Zax]
 refine (Zdd R1 (by omega) 2).mono ?_
 rintro v h2 ⟨y,rfl,hy0,hy1,_,K2,R2,_⟩
 simp only [Zax]
 obtain ⟨d,rfl⟩:∃ d:Nat,x=d:=⟨x.toNat,by omega⟩
 have hd:d≤3:=by omega
 have hB:4 ^ (d + 1)≤256:=by
  have:d=0 ∨ d=1 ∨ d=2 ∨ d=3:=by omega
  rcases this with rfl | rfl | rfl | rfl <;> decide
 refine (Zwt d (by omega) R2 (by omega) _).mono ?_
 rintro v h3 ⟨t,rfl,hok,hlen,K3,p3,hp1,hp2,R3⟩
 generalize ht:t.txt=s at hlen
 have K13:=(K1.trans K2).trans K3
 simp only [Zah]
 refine (Zdd R3 (by omega) 16).mono ?_
 rintro v h4 ⟨z,rfl,hz0,hz1,_,K4,R4,_⟩
 have K14:=K13.trans K4
 simp only [Zax]
 refine Zar (fun _=>⟨s,rfl,by omega,K14,p3 + 1,by omega,by omega,R4⟩) (fun _=>?_)
 have hs1:1≤s.length:=by rw [← ht]; obtain ⟨y,hy⟩:=t.txt_cons; rw [hy]; simp
 refine (Zdd R4 (by omega) (s.length:Nat)).mono ?_
 rintro v h5 ⟨k,rfl,hk0,hk1,_,K5,R5,_⟩
 have hk1:=hk1 (by omega)
 simp only [Zax]
 refine ⟨by omega,?_⟩
 simp only [Zaw]
 have hil:=R5.lt
 refine (Znk (R5.app _) (by omega) (j:=h5.length) (t:=Zbi) (n:=7) (l:=[[],[40],[41],[44],[105],[113],[88]]) (by simp [Zdb,eS]) (by omega) rfl (by omega)).mono ?_
 rintro v h6 ⟨w,hw,rfl,K6,R6,_⟩
 have K16:=((K14.trans K5).trans (Zem.app i h5 _)).trans K6
 have hwl:w.length≤1:=by simp at hw; rcases hw with rfl | rfl | rfl | rfl | rfl | rfl | rfl <;> simp
 simp only [Zah]
 have hs1:=Ykr s 0 k
 refine ⟨by omega,?_⟩
 refine (Zdd R6 (by omega) 2).mono ?_
 rintro v h7 ⟨u,rfl,hu0,hu1,_,K7,R7,_⟩
 have hu1:=hu1 (by omega)
 simp only [Zax]
 rw [IntWalk.i64_in (k + u) (by omega)]
 have hs2:=Ykr s (k + u) s.length
 refine ⟨by omega,by simp; omega,_,rfl,by simp; omega,K16.trans K7,_,?_,?_,R7⟩ <;> omega
theorem Ylv:∀ (vs:List Nat) (ts:List Ty),vs.Nodup→∀ k (hk:k < vs.length),k < ts.length→Zht (vs.zip ts) vs[k]=ts[k]?
 | [],_,_,k,hk,_=>by simp at hk
 | v :: vs,[],_,k,_,h=>by simp at h
 | v :: vs,t :: ts,hn,0,_,_=>by simp [Zht]
 | v :: vs,t :: ts,hn,k + 1,hk,h=>by
  have h1:=List.nodup_cons.1 hn
  have hk':k < vs.length:=by simpa using hk
  have hne:v≠vs[k]:=fun e=>h1.1 (e ▸ List.getElem_mem hk')
  simp only [List.zip_cons_cons,Zht,List.getElem_cons_succ,if_neg hne,List.getElem?_cons_succ]
  exact Ylv vs ts h1.2 k hk' (by simpa using h)
theorem Ypg:∀ {m:Bd} {v:Nat} {u:Ty},Zht m v=some u→(v,u)∈m
 | [],_,_,h=>by cases h
 | (a,b) :: m,v,u,h=>by
  simp only [Zht] at h
  split at h
  ·rename_i e; cases h; subst e; exact List.mem_cons_self ..
  ·exact List.mem_cons_of_mem _ (Ypg h)
theorem Zww {f:Nat→Option Ty} (hf:∀ c u,f c=some u→u.txt.length≤16):∀ t:Ty,(subst f t).txt.length≤16 * t.txt.length
 | .k c=>by
  simp only [subst]
  cases h:f c with
  | none=>simp [Ty.txt]
  | some u=>have:=hf c u h; simp [Ty.txt]; omega
 | .u c a=>by have:=Zww hf a; simp [subst,Ty.txt]; omega
 | .w c a b=>by have:=Zww hf a; have:=Zww hf b; simp [subst,Ty.txt]; omega
theorem Yrf {h:Zaa} {i p:Nat} {s:List Nat} (r:Rdr h i p) (hp:p≤900000000000) (hs:s.length≤1048576):Zak pg Zme [.ptr (some (i,0)),.str s] h (TxQ i p h):=by
 apply Zmh.call
 refine (Zqg s (by omega) h).mono ?_
 rintro v h1 ⟨s1,vs,rfl,hm⟩
 have hil:=r.lt
 have leaf:∀ h',Zem i h h'→∀ p',p≤p'→p'≤p + 1000→Rdr h' i p'→TxQ i p h (.str [105]) h':=fun h' K p' h1 h2 R=>⟨[105],rfl,by simp,K,p',h1,h2,R⟩
 have hvs:∃ (d:Nat) (a:Pt) (n c:Nat) (e:Bool),vs=[.int .u8 (d:Int),.slice a n c e]:=by
  split at hm
  ·obtain ⟨a,c,e,rfl⟩:=hm.shape; exact ⟨_,_,_,_,_,rfl⟩
  ·exact ⟨0,_,_,_,_,hm⟩
 obtain ⟨d,a,n,c,e,rfl⟩:=hvs
 simp only [Zco,Zae,Zdt,Zax,Zaj,Zam,Zaq,Zaw]
 rw [Zfb]
 simp only [Zas]
 generalize hh2:h1 ++ [Zcb.cells Zap [.int .u8 (d:Int),.slice a n c e] false]=h2
 have s2:Zbc h1.length h1 h2:=by rw [← hh2]; exact Zal
 have l2:h2.length=h1.length + 1:=by rw [← hh2]; simp
 have n2:h2[h1.length]?=some (.cells Zap [.int .u8 (d:Int),.slice a n c e] false):=by rw [← hh2]; simp
 have S2:=s1.cat s2
 refine Zbs (fun hno=>leaf _ (Zem.of_same S2) p (by omega) (by omega) (r.same S2)) (fun hyes=>?_)
 have hof:∃ t,Zkt s=some t:=by
  unfold Zoq at hyes
  cases hx:Zkt s with
  | none=>rw [hx] at hyes; cases hyes
  | some t=>exact ⟨t,rfl⟩
 obtain ⟨t,ht⟩:=hof
 obtain ⟨hok,hst,hsl⟩:=Zgu.1 ht
 rw [ht] at hm
 simp only at hm
 generalize hh3:h2 ++ [Zcb.cells Zdo [.int .u8 0,.slice none 0 0 true,.int .u8 0,.slice none 0 0 true,.int .u8 0,.slice none 0 0 true,.int .u8 0,.slice none 0 0 true,.int .u8 0,.slice none 0 0 true,.int .u8 0,.slice none 0 0 true,.int .u8 0,.slice none 0 0 true,.int .u8 0,.slice none 0 0 true,.int .u8 0,.slice none 0 0 true,.int .u8 0,.slice none 0 0 true,.int .u8 0,.slice none 0 0 true,.int .u8 0,.slice none 0 0 true] false]=h3
 have s3:Zbc h2.length h2 h3:=by rw [← hh3]; exact Zal
 have l3:h3.length=h2.length + 1:=by rw [← hh3]; simp
 have m3:h3[h2.length]?=some (.cells Zdo (Zdb eR (List.replicate 12 (.int .u8 0,.slice none 0 0 true))) false):=by rw [← hh3]; simp; rfl
 have S3:=S2.cat s3
 have n3:=s3.get n2 (Own.lt n2)
 have r3:=r.same S3
 refine Zmh.L6ind (J:=fun (g:Nat) x19 h'=>x19=(g:Int)∧g≤12∧Zem i h h'∧(∃ p',p≤p'∧p'≤p + g * 80∧Rdr h' i p')∧h3.length≤h'.length∧h'[h1.length]?=some (.cells Zap [.int .u8 (d:Int),.slice a n c e] false) ∧
   Zji (fun j=>j≠h2.length∧j≠i∧j < h'.length) h' t [.int .u8 (d:Int),.slice a n c e] ∧
   ∃ (rows:List (Zay × Zay)) (ts:List Ty),rows.length=12∧ts.length=g∧(∀ u∈ts,u.ok=true∧u.txt.length≤16)∧h'[h2.length]?=some (.cells Zdo (Zdb eR rows) false) ∧
    ∀ (k:Nat) (x:Zay × Zay) (u:Ty),rows[k]?=some x→ts[k]?=some u→Zji (fun j=>j≠h2.length∧j≠i∧j < h'.length) h' u (eR x))
  (m:=fun g=>12 - g) (hr:=?_) (g:=0) (hj:=⟨rfl,by omega,Zem.of_same S3,⟨p,by omega,by omega,r3⟩,Nat.le_refl _,n3,?_,_,[],by simp,rfl,by simp,m3,by simp⟩) ..
 ·rintro g x19 h4 ⟨rfl,hg,K4,⟨p4,hp1,hp2,R4⟩,l4,n4,rt,rows,ts,hrl,htl,hts,m4,hrep⟩ R hR
  unfold Zmh.L6t
  refine Zar (fun hlt=>?_) (fun hge=>?_)
  ·refine (Zdd R4 (by omega) 2).mono ?_
   rintro v h5 ⟨x,rfl,hx0,hx1,_,K5,R5,_⟩
   have hx1:=hx1 (by omega)
   simp only [Zax]
   refine (Zdd R5 (by omega) 2).mono ?_
   rintro v h6 ⟨y,rfl,hy0,hy1,_,K6,R6,_⟩
   simp only [Zax]
   obtain ⟨q,rfl⟩:∃ q:Nat,x=q:=⟨x.toNat,by omega⟩
   have hB:4 ^ (q + 1)≤16:=by
    have:q=0 ∨ q=1:=by omega
    rcases this with rfl | rfl <;> decide
   refine (Zwt q (by omega) R6 (by omega) _).mono ?_
   rintro v h7 ⟨u,rfl,huok,hulen,K7,p7,hp3,hp4,R7⟩
   have K47:=(K5.trans K6).trans K7
   simp only [Zah]
   refine (Zqg u.txt (by omega) h7).mono ?_
   rintro v h8 ⟨s8,vu,rfl,hmu⟩
   rw [Zgu.2 ⟨huok,rfl,by omega⟩] at hmu
   simp only at hmu
   obtain ⟨au,cu,eu,hsh⟩:=hmu.shape
   subst hsh
   have K48:=K47.trans (Zem.of_same s8)
   simp only [Zco,Zae,Zdt,Zax,Zaj,Zam,Zaq]
   have l8:=K48.le
   have hm2i:h2.length≠i:=by have:=S2.le; omega
   have m8:h8[h2.length]?=some (.cells Zdo (Zdb eR rows) false):=by rw [K48.eq _ (Own.lt m4) hm2i]; exact m4
   have hfl:(Zdb eR rows).length=24:=by rw [Zat Zte,hrl]
   rw [Nat.zero_add,Int.toNat_natCast,Zbg m8 (by rw [hfl]; simp; omega)]
   simp only [Zas]
   rw [show ([Zay.int .u8 (u.hd:Int),Zay.slice au u.ps.length cu eu]:List Zay)=eR (Zay.int .u8 (u.hd:Int),Zay.slice au u.ps.length cu eu) from rfl,Yez Zte (by omega),Zbm (by omega)]
   have hset:∀ j,j≠h2.length→(h8.set h2.length (Zcb.cells Zdo (Zdb eR (rows.set g (Zay.int .u8 (u.hd:Int),Zay.slice au u.ps.length cu eu))) false))[j]?=h8[j]?:=fun j hj=>Zbw (fun e=>hj e.symm)
   have old:∀ j,(j≠h2.length∧j≠i∧j < h4.length)→(h8.set h2.length (Zcb.cells Zdo (Zdb eR (rows.set g (Zay.int .u8 (u.hd:Int),Zay.slice au u.ps.length cu eu))) false))[j]?=h4[j]?:=fun j hj=>by rw [hset j hj.1,K48.eq j hj.2.2 hj.2.1]
   have hup:∀ j,(j≠h2.length∧j≠i∧j < h4.length)→(j≠h2.length∧j≠i∧j < (h8.set h2.length (Zcb.cells Zdo (Zdb eR (rows.set g (Zay.int .u8 (u.hd:Int),Zay.slice au u.ps.length cu eu))) false)).length):=fun j hj=>⟨hj.1,hj.2.1,by simp; omega⟩
   have i8:Rdr h8 i p7:=R7.same s8
   refine ⟨⟨by omega,by omega⟩,hR (g + 1) _ _ (by omega) ⟨by omega,by omega,(K4.trans K48).trans' (fun j hj=>Zbw (by have:=S2.le; omega)),⟨p7,by omega,by omega,?_⟩,by simp; omega,?_,(rt.agree old).mono hup,_,ts ++ [u],by simp [hrl],by simp [htl],?_,Zce m8,?_⟩⟩
   ·refine i8.agree (fun j hj=>hset j (by have:=S2.le; omega)) (by simp)
   ·rw [hset _ (by omega),K48.eq _ (Own.lt n4) (by have:=s1.le; omega)]; exact n4
   ·intro w hw
    rcases List.mem_append.1 hw with hw | hw
    ·exact hts w hw
    ·simp at hw; subst hw; exact ⟨huok,by omega⟩
   ·intro k x w hx hw
    by_cases hk:k=g
    ·subst hk
     rw [List.getElem?_set_self (by omega)] at hx
     rw [List.getElem?_append_right (by omega)] at hw
     simp [htl] at hw
     cases hx; subst hw
     refine (hmu.agree (h':=h8.set h2.length (Zcb.cells Zdo (Zdb eR (rows.set k (Zay.int .u8 (u.hd:Int),Zay.slice au u.ps.length cu eu))) false)) fun j hj=>hset j (by have:=hj.1; have:=K47.le; omega)).mono fun j hj=>⟨by have:=hj.1; have:=K47.le; omega,by have:=hj.1; have:=K47.le; have:=S2.le; omega,by simp; exact hj.2⟩
    ·rw [List.getElem?_set_ne (fun e=>hk e.symm)] at hx
     have hkg:k < g:=by
      have:=(List.getElem?_eq_some_iff.1 hw).1
      simp [htl] at this; omega
     rw [List.getElem?_append_left (by omega)] at hw
     exact ((hrep k x w hx hw).agree old).mono hup
  ·have hg12:g=12:=by omega
   subst hg12
   apply Zmh.A6x0i
   rw [Zaz n4]
   simp only [Zao,Zae,Zam,Zax,Zaj]
   have hget:∀ k,k < 6→(Zfh[k]?).bind (Zht (Zfh.zip ts))=ts[k]?:=fun k hk=>by
    have hk6:k < Zfh.length:=hk
    rw [List.getElem?_eq_getElem hk6,Option.bind_some]
    exact Ylv Zfh ts Zsi k hk6 (by omega)
   have hin:∀ v u,Zht (Zfh.zip ts) v=some u→v∈Zfh∧u∈ts:=fun v u hu=>by
    have:=Ypg hu
    exact ⟨(List.of_mem_zip this).1,(List.of_mem_zip this).2⟩
   have hW:Ytw (fun j=>j≠h2.length∧j≠i∧j < h4.length) h4 h2.length (Zfh.zip ts):=by
    refine ⟨rows,hrl,m4,fun k x hk hx=>?_⟩
    rw [hget k hk]
    have hkt:k < ts.length:=by omega
    rw [List.getElem?_eq_getElem hkt]
    exact hrep k x _ hx (List.getElem?_eq_getElem hkt)
   have hnv:∀ v,Zee v=false→Zht (Zfh.zip ts) v=none:=fun v hv=>by
    cases hb:Zht (Zfh.zip ts) v with
    | none=>rfl
    | some u=>
     have h1:=(hin v u hb).1
     have:∀ x∈Zfh,Zee x=true:=by decide
     rw [this v h1] at hv; cases hv
   refine (Yeo _ (Nat.le_refl _) hok (fun j hj=>⟨hj.2.2,hj.1⟩) rt hW (fun v u hu=>(hts u (hin v u hu).2).1) hnv).mono ?_
   rintro x h5 ⟨s5,vs5,rfl,rt5⟩
   have hl5:(subst (Zht (Zfh.zip ts)) t).txt.length≤1048576:=by
    have:=Zww (f:=Zht (Zfh.zip ts)) (fun c u hu=>(hts u (hin c u hu).2).2) t
    rw [← hst] at this; omega
   have hok5:(subst (Zht (Zfh.zip ts)) t).ok=true:=Zzu ⟨hnv,fun v u hu=>(hts u (hin v u hu).2).1⟩ hok
   obtain ⟨a5,c5,e5,hsh5⟩:=rt5.shape
   subst hsh5
   simp only [Zdt,Zae,Zax,Zaj,Zam,Zaw]
   rw [Zfb]
   simp only [Zas]
   generalize hh6:h5 ++ [Zcb.cells Zap [.int .u8 ((subst (Zht (Zfh.zip ts)) t).hd:Int),.slice a5 (subst (Zht (Zfh.zip ts)) t).ps.length c5 e5] false]=h6
   have s6:Zbc h5.length h5 h6:=by rw [← hh6]; exact Zal
   have n6:h6[h5.length]?=some (.cells Zap [.int .u8 ((subst (Zht (Zfh.zip ts)) t).hd:Int),.slice a5 (subst (Zht (Zfh.zip ts)) t).ps.length c5 e5] false):=by rw [← hh6]; simp
   rw [Zaz n6]
   simp only [Zao,Zae,Zam,Zax,Zaj]
   have rt6:=rt5.same s6
   refine (Zsl _ (Nat.le_refl _) hl5 rt6).mono ?_
   rintro v h7 ⟨rfl,s7⟩
   simp only [Zax]
   have K7:=((K4.trans (Zem.of_same s5)).trans (Zem.of_same s6)).trans (Zem.of_same s7)
   have R7:=((R4.same s5).same s6).same s7
   refine Zar (fun _=>leaf _ K7 p4 hp1 (by omega) R7) (fun hsm=>?_)
   rw [Zaz (s7.get n6 (Own.lt n6))]
   simp only [Zao,Zae,Zam,Zax,Zaj]
   refine (Zrv _ (Nat.le_refl _) hl5 hok5 (rt6.same s7)).mono ?_
   rintro v h8 ⟨rfl,s8⟩
   simp only [Zah]
   exact ⟨_,rfl,by omega,K7.trans (Zem.of_same s8),p4,hp1,by omega,R7.same s8⟩
 ·exact (hm.agree (h':=h3) fun j hj=>by rw [s3.eq j (by have:=hj.2; omega),s2.eq j hj.2]).mono fun j hj=>⟨by have:=hj.2; omega,by have:=hj.1; omega,by have:=hj.2; omega⟩
end Go.Sim

set_option linter.unusedSimpArgs false
set_option linter.unusedVariables false
namespace Go.Sim
def Xbi:Nat→List Nat→Option (Ty × List Nat)
 | 0,_=>none
 | f + 1,c :: 40 :: r=>(match Xbi f r with
  | some (a,41 :: r')=>some (.u c a,r')
  | some (a,44 :: r')=>(match Xbi f r' with | some (b,41 :: r'')=>some (.w c a b,r'') | _=>none)
  | _=>none)
 | f + 1,c :: r=>some (.k c,r)
 | _,[]=>none
def Yur (s:List Nat):Bool:=match Xbi 30 s with | some (t,[])=>t.ok && decide (t.txt=s) && decide (s.length≤60) | _=>false
theorem Ylo {s:List Nat} (h:Yur s=true):Zoq s=true:=by
 unfold Yur at h
 split at h
 ·rename_i t _
  simp only [Bool.and_eq_true,decide_eq_true_eq] at h
  exact Zuz.2 ⟨t,h.1.1,h.1.2.symm,h.2⟩
 ·cases h
def Yka (cs:List Nd) (t:List Nat) (n:Nd):Bool:=Zgg cs n.1 && Yur n.2 && decide (n.2.length≤20) && (Zrn n.2).all fun v=>decide (v∈t)
def Ytm (cs:List Nd) (i:Ins):Bool:=Zit cs && Zgg cs i.1.1 && Yur i.1.2 && decide (i.1.2.length≤20) && !Zmi i.1.2 && decide (i.2.length≤3) && i.2.all (Yka cs i.1.2)
def Yfa (w:Wd):Bool:=Zit w.cs && decide (w.is.length≤10) && w.is.all (Ytm w.cs)
theorem Yne {cs:List Nd} {t:List Nat} {n:Nd} (h:Yka cs t n=true):Zkz cs t n=true:=by
 unfold Yka at h
 unfold Zkz
 simp only [Bool.and_eq_true] at h ⊢
 exact ⟨⟨⟨h.1.1.1,Ylo h.1.1.2⟩,h.1.2⟩,h.2⟩
theorem Yqk {cs:List Nd} {i:Ins} (h:Ytm cs i=true):Zoz cs i=true:=by
 unfold Ytm at h
 unfold Zoz
 simp only [Bool.and_eq_true,List.all_eq_true] at h ⊢
 exact ⟨⟨⟨⟨⟨⟨h.1.1.1.1.1.1,h.1.1.1.1.1.2⟩,Ylo h.1.1.1.1.2⟩,h.1.1.1.2⟩,h.1.1.2⟩,h.1.2⟩,fun n hn=>Yne (h.2 n hn)⟩
theorem Yjv {w:Wd} (h:Yfa w=true):Zcz w=true:=by
 unfold Yfa at h
 unfold Zcz
 simp only [Bool.and_eq_true,List.all_eq_true] at h ⊢
 exact ⟨h.1,fun i hi=>Yqk (h.2 i hi)⟩
end Go.Sim

set_option linter.unusedSimpArgs false
set_option linter.unusedVariables false
namespace Go.Sim
def Yfy (s:List Nat):Nd:=match s with | c :: d :: e :: r=>if d=60 then ([c],e :: r) else (s,[]) | _=>(s,[])
noncomputable def Ydw (s:List Nat):Option Ins:=
 match Zcy 58 s with
 | [a]=>(Znu a).map fun n=>(n,[])
 | [a,b]=>(Znu a).bind fun n=>((Zcy 38 b).mapM Znu).map fun l=>(n,l)
 | _=>none
def Ytx:Wd:=⟨[],[]⟩
noncomputable def wdQ (w:Wd):Wd:=if Zcz w then w else Ytx
noncomputable def wdP (s:List Nat):Wd:=
 match ((Zcy 59 s).drop 1).mapM Ydw with
 | some l=>wdQ ⟨(Zcy 32 ((Zcy 59 s).headD [])).map Yfy,l⟩
 | none=>Ytx
structure WS (m:Nat) (w:Wd):Prop where
 lc:w.cs.length≤m
 li:w.is.length≤m
 cs:∀ p∈w.cs,p.1.length≤1000∧p.2.length≤1000∧∀ b∈p.1,b < 256
 is:∀ i∈w.is,i.1.1.length≤1000∧i.1.2.length≤1000∧i.2.length≤1000∧∀ p∈i.2,p.1.length≤1000∧p.2.length≤1000
theorem WS.mono {m n:Nat} {w:Wd} (s:WS m w) (h:m≤n):WS n w:=⟨by have:=s.lc; omega,by have:=s.li; omega,s.cs,s.is⟩
theorem Yys {m:Nat}:WS m Ytx:=⟨by simp [Ytx],by simp [Ytx],by simp [Ytx],by simp [Ytx]⟩
theorem WS.addI {m:Nat} {w:Wd} (s:WS m w) {i:Ins} (h:i.1.1.length≤1000∧i.1.2.length≤1000∧i.2.length≤1000∧∀ p∈i.2,p.1.length≤1000∧p.2.length≤1000):WS (m + 1) ⟨w.cs,w.is ++ [i]⟩:=
 ⟨by have:=s.lc; simp; omega,by have:=s.li; simp; omega,s.cs,fun j hj=>by
  rcases List.mem_append.1 hj with hj | hj
  ·exact s.is j hj
  ·rw [List.mem_singleton] at hj; subst hj; exact h⟩
theorem WS.addC {m:Nat} {w:Wd} (s:WS m w) {p:Nd} (h:p.1.length≤1000∧p.2.length≤1000∧∀ b∈p.1,b < 256):WS (m + 1) ⟨w.cs ++ [p],w.is⟩:=
 ⟨by have:=s.lc; simp; omega,by have:=s.li; simp; omega,fun q hq=>by
  rcases List.mem_append.1 hq with hq | hq
  ·exact s.cs q hq
  ·rw [List.mem_singleton] at hq; subst hq; exact h,s.is⟩
theorem Yly {s:List Nat}:(Yfy s).1.length≤s.length∧(Yfy s).2.length≤s.length:=by
 unfold Yfy
 split
 ·split <;> simp <;> omega
 ·simp
theorem Yhl {s:List Nat} (h:∀ b∈s,b < 256):∀ b∈(Yfy s).1,b < 256:=by
 unfold Yfy
 split
 ·split
  ·intro b hb; rw [List.mem_singleton] at hb; subst hb; exact h _ (by simp)
  ·exact h
 ·exact h
theorem Zjs {c:Nat}:∀ {s:List Nat},(∀ b∈s,b < 256)→∀ p∈Zcy c s,∀ b∈p,b < 256
 | [],_=>by intro p hp; simp [Zcy] at hp; simp [hp]
 | x :: s,hb=>by
  have ih:=Zjs (c:=c) (s:=s) fun b h=>hb b (by simp [h])
  intro p hp
  simp only [Zcy] at hp
  by_cases hx:x=c
  ·simp only [hx,if_true] at hp
   rcases List.mem_cons.1 hp with rfl | hp
   ·simp
   ·exact ih p hp
  ·simp only [if_neg hx] at hp
   cases hs:Zcy c s with
   | nil=>exact absurd hs (Zrt c s)
   | cons q r=>
    rw [hs] at hp ih
    rcases List.mem_cons.1 hp with rfl | hp
    ·intro b hbm
     rcases List.mem_cons.1 hbm with rfl | hbm
     ·exact hb _ (by simp)
     ·exact ih q (by simp) b hbm
    ·exact ih p (by simp [hp])
theorem Zzt {α β:Type} {f:α→Option β}:∀ {l:List α} {r:List β},l.mapM f=some r→r.length=l.length∧∀ y∈r,∃ x∈l,f x=some y
 | [],r,h=>by simp at h; subst h; exact ⟨rfl,by simp⟩
 | a :: l,r,h=>by
  simp only [List.mapM_cons] at h
  cases hf:f a with
  | none=>rw [hf] at h; cases h
  | some y=>
   rw [hf] at h
   cases hl:l.mapM f with
   | none=>rw [hl] at h; cases h
   | some ys=>
    rw [hl] at h; simp at h; subst h
    obtain ⟨h1,h2⟩:=Zzt hl
    refine ⟨by simp [h1],fun z hz=>?_⟩
    rcases List.mem_cons.1 hz with rfl | hz
    ·exact ⟨a,by simp,hf⟩
    ·obtain ⟨x,hx,hy⟩:=h2 z hz; exact ⟨x,by simp [hx],hy⟩
theorem Zjr {c:Nat} (s:List Nat):(Zcy c s).length≤s.length + 1:=by rw [Zlz]; have:=List.count_le_length (a:=c) (l:=s); omega
theorem Yef {s:List Nat} {i:Ins} (hs:s.length≤900) (h:Ydw s=some i):i.1.1.length≤1000∧i.1.2.length≤1000∧i.2.length≤1000∧∀ p∈i.2,p.1.length≤1000∧p.2.length≤1000:=by
 unfold Ydw at h
 split at h
 ·rename_i a ha
  cases hn:Znu a with
  | none=>rw [hn] at h; cases h
  | some n=>
   rw [hn] at h; cases h
   have:=Ycv hn
   simp only
   exact ⟨by omega,by omega,by simp,by simp⟩
 ·rename_i a b ha
  cases hn:Znu a with
  | none=>rw [hn] at h; cases h
  | some n=>
   rw [hn] at h
   simp only [Option.bind_some] at h
   cases hl:(Zcy 38 b).mapM Znu with
   | none=>rw [hl] at h; cases h
   | some l=>
    rw [hl] at h; cases h
    have:=Ycv hn
    obtain ⟨h1,h2⟩:=Zzt hl
    have hb:b.length≤s.length:=Zig (c:=58) (by rw [ha]; simp)
    have h3:=Zjr (c:=38) b
    simp only
    refine ⟨by omega,by omega,by omega,fun p hp=>?_⟩
    obtain ⟨x,_,hx⟩:=h2 p hp
    have:=Ycv hx
    omega
 ·cases h
theorem Yad {s:List Nat} (hs:s.length≤900) (hb:∀ b∈s,b < 256):WS 1000 (wdP s):=by
 unfold wdP
 split
 ·rename_i l hl
  obtain ⟨h1,h2⟩:=Zzt hl
  unfold wdQ
  split
  ·have hhd:(Zcy 59 s).headD []∈Zcy 59 s:=by
    cases hx:Zcy 59 s with
    | nil=>exact absurd hx (Zrt 59 s)
    | cons a r=>simp
   have hh:=Zig hhd
   have hhb:=Zjs hb _ hhd
   refine ⟨?_,?_,fun p hp=>?_,fun i hi=>?_⟩
   ·have:=Zjr (c:=32) ((Zcy 59 s).headD []); simp only [List.length_map]; omega
   ·have:=Zjr (c:=59) s; simp only [h1,List.length_drop]; omega
   ·simp only [List.mem_map] at hp
    obtain ⟨q,hq,rfl⟩:=hp
    have:=Zig hq
    have h3:=Yly (s:=q)
    exact ⟨by omega,by omega,Yhl (Zjs hhb q hq)⟩
   ·obtain ⟨x,hx,he⟩:=h2 i hi
    have:=Zig (List.mem_of_mem_drop hx)
    exact Yef (by omega) he
  ·exact Yys
 ·exact Yys
def Zxp:List (List Nat):=[[69],[69,32,79,60,69],[65,32,66],[65,32,66,60,65,32,67,60,65,66],[69,32,79,60,69,32,83]]
theorem Yxs:∀ s∈Zxp,(wdP s).cs≠[]∧(wdP s).is=[]:=by
 have key:∀ s,(Zcy 59 s)=[s]→Yfa ⟨(Zcy 32 s).map Yfy,[]⟩=true→(wdP s).cs≠[]∧(wdP s).is=[]:=by
  intro s h1 h2
  unfold wdP
  rw [h1]
  simp only [List.drop_succ_cons,List.drop_zero,List.mapM_nil,List.headD_cons]
  rw [show (pure []:Option (List Ins))=some [] from rfl]
  simp only
  unfold wdQ
  rw [if_pos (Yjv h2)]
  refine ⟨?_,rfl⟩
  intro h
  have:=congrArg List.length h
  simp only [List.length_map,Zlz,List.length_nil] at this
  omega
 intro s hs
 simp only [Zxp,List.mem_cons,List.not_mem_nil,or_false] at hs
 rcases hs with rfl | rfl | rfl | rfl | rfl <;> exact key _ (by decide) (by decide)
end Go.Sim

set_option linter.unusedVariables false
set_option linter.unusedSimpArgs false
set_option maxRecDepth 20000
namespace Go.Sim
open Go Go.RowKit

structure WDr (b:Nat) (h:Zaa) (a0:Pt) (n0 c0:Nat) (q n1 c1:Nat) (ys:List EI) (w:Wd):Prop where
 cls:Zds Zbj eP b h a0 n0 w.cs
 le0:n0≤c0
 bq:b≤q
 ob:h[q]?=some (.cells Zad (Zdb eN ys) false)
 len:ys.length=n1
 wl:w.is.length=n1
 le1:n1≤c1
 need:∀ (k:Nat) (x:EI) (i:Ins),ys[k]?=some x→w.is[k]?=some i→x.c=i.1.1∧x.t=i.1.2∧Zds Zab eP b h x.a x.n i.2
theorem Zds.at {α:Type} {ty:TypeId} {enc:α→List Zay} {b:Nat} {h h':Zaa} {a:Pt} {n:Nat} {l:List α} (f:Zds ty enc b h a n l) (hh:∀ j,b≤j→j < h.length→h'[j]?=h[j]?):Zds ty enc b h' a n l:=
 ⟨f.1,f.2.imp id fun ⟨i,ha,hb,hi⟩=>⟨i,ha,hb,by rw [hh i hb (Own.lt hi)]; exact hi⟩⟩
section
variable {b:Nat} {h h':Zaa} {a0:Pt} {n0 c0 q n1 c1:Nat} {ys:List EI} {w:Wd}
theorem WDr.keep (d:WDr b h a0 n0 c0 q n1 c1 ys w) (hh:∀ j,b≤j→j < h.length→h'[j]?=h[j]?):WDr b h' a0 n0 c0 q n1 c1 ys w:=
 ⟨d.cls.at hh,d.le0,d.bq,by rw [hh q d.bq (Own.lt d.ob)]; exact d.ob,d.len,d.wl,d.le1,fun k x i hx hi=>⟨(d.need k x i hx hi).1,(d.need k x i hx hi).2.1,(d.need k x i hx hi).2.2.at hh⟩⟩
theorem WDr.same (d:WDr b h a0 n0 c0 q n1 c1 ys w) (s:Zbc h.length h h'):WDr b h' a0 n0 c0 q n1 c1 ys w:=d.keep fun j _ hj=>s.eq j hj
theorem WDr.kp {i:Nat} (d:WDr b h a0 n0 c0 q n1 c1 ys w) (s:Zem i h h') (hi:i < b):WDr b h' a0 n0 c0 q n1 c1 ys w:=d.keep fun j hj hl=>s.eq j hl (by omega)
theorem WDr.low {b':Nat} (d:WDr b h a0 n0 c0 q n1 c1 ys w) (hb:b'≤b):WDr b' h a0 n0 c0 q n1 c1 ys w:=
 ⟨d.cls.low hb,d.le0,by have:=d.bq; omega,d.ob,d.len,d.wl,d.le1,fun k x i hx hi=>⟨(d.need k x i hx hi).1,(d.need k x i hx hi).2.1,(d.need k x i hx hi).2.2.low hb⟩⟩
theorem WDr.rep (d:WDr b h a0 n0 c0 q n1 c1 ys w):Zkr h a0 n0 c0 (some (q,0)) n1 c1 w:=by
 refine ⟨d.cls.row Zcr,⟨ys,?_,d.len.trans d.wl.symm,fun k x i hx hi=>⟨(d.need k x i hx hi).1,(d.need k x i hx hi).2.1,(d.need k x i hx hi).2.2.row Zcr⟩⟩,d.le0,d.le1⟩
 have:=(Vec.mk1 (n:=0) (c:=0) d.ob).row (m:=n1 * 3) (by rw [Zat Zrs,d.len])
 exact this
theorem WDr.of {a1:Pt} (f:Zvr b h a0 n0 a1 n1 ys w) (h0:n0≤c0) (h1:n1≤c1) (hb:b≤q) (hq:h[q]?=some (.cells Zad (Zdb eN ys) false)):WDr b h a0 n0 c0 q n1 c1 ys w:=
 ⟨f.cls,h0,hb,hq,by have:=f.ins.1; exact this,by have:=f.ins.1; rw [← f.len]; exact this,h1,f.need⟩
theorem WDr.push (d:WDr b h a0 n0 c0 q n1 c1 ys w) {x:EI} {i:Ins} {q':Nat} (hx:x.c=i.1.1∧x.t=i.1.2∧Zds Zab eP b h x.a x.n i.2) (hq':b≤q') (ho:h'[q']?=some (.cells Zad (Zdb eN (ys ++ [x])) false)) {z:Nat} (hz:∀ o,h[z]?=some o→∃ cs,o=.cells Zad cs false)
  (hh:∀ j,j < h.length→j≠z→h'[j]?=h[j]?) {c1':Nat} (hc:n1 + 1≤c1'):WDr b h' a0 n0 c0 q' (n1 + 1) c1' (ys ++ [x]) ⟨w.cs,w.is ++ [i]⟩:=by
 have off:∀ {j:Nat} {ty:TypeId} {cs:List Zay},ty≠Zad→h[j]?=some (.cells ty cs false)→h'[j]?=some (.cells ty cs false):=fun {j ty cs} hne hj=>by
  rw [hh j (Own.lt hj) (fun e=>by
   subst e
   obtain ⟨cs',hcs⟩:=hz _ hj
   injection hcs with h1 h2 h3
   exact hne h1)]
  exact hj
 have fr:∀ {a:Pt} {n:Nat} {l:List Nd},Zds Zab eP b h a n l→Zds Zab eP b h' a n l:=fun f=>⟨f.1,f.2.imp id fun ⟨j,ha,hb,hj⟩=>⟨j,ha,hb,off (by decide) hj⟩⟩
 refine ⟨⟨d.cls.1,d.cls.2.imp id fun ⟨j,ha,hb,hj⟩=>⟨j,ha,hb,off (by decide) hj⟩⟩,d.le0,hq',ho,by simp [d.len],by simp [d.wl],hc,fun k y j hy hj=>?_⟩
 by_cases hk:k < n1
 ·rw [List.getElem?_append_left (by rw [d.len]; exact hk)] at hy
  rw [List.getElem?_append_left (by rw [d.wl]; exact hk)] at hj
  obtain ⟨p1,p2,p3⟩:=d.need k y j hy hj
  exact ⟨p1,p2,fr p3⟩
 ·have hkn:k=n1:=by have:=(List.getElem?_eq_some_iff.1 hy).1; simp [d.len] at this; omega
  subst hkn
  rw [List.getElem?_append_right (by rw [d.len]; exact Nat.le_refl _)] at hy
  rw [List.getElem?_append_right (by rw [d.wl]; exact Nat.le_refl _)] at hj
  simp [d.len] at hy
  simp [d.wl] at hj
  subst hy; subst hj
  exact ⟨hx.1,hx.2.1,fr hx.2.2⟩
end
theorem WS.wb {m:Nat} {w:Wd} (s:WS m w) (h:m≤1048576):WB w:=
 ⟨Nat.le_trans s.lc h,Nat.le_trans s.li h,fun p hp=>⟨by have:=(s.cs p hp).1; omega,by have:=(s.cs p hp).2.1; omega,(s.cs p hp).2.2⟩,fun i hi=>by
  obtain ⟨h1,h2,h3,h4⟩:=s.is i hi
  exact ⟨by omega,by omega,by omega,fun p hp=>by have:=h4 p hp; omega⟩⟩

theorem Ysk {s a:List Nat} {r:List (List Nat)} (h:Zcy 58 s=a :: r) (hn:Znu a=none):Ydw s=none:=by
 unfold Ydw
 rw [h]
 match r with
 | []=>simp only [hn]; rfl
 | [b]=>simp only [hn]; rfl
 | _ :: _ :: _=>rfl
theorem Ysu {s a b c:List Nat} {r:List (List Nat)} (h:Zcy 58 s=a :: b :: c :: r):Ydw s=none:=by
 unfold Ydw; rw [h]
theorem Ywj {s a:List Nat} {p:Nd} (h:Zcy 58 s=[a]) (hn:Znu a=some p):Ydw s=some (p,[]):=by
 unfold Ydw; rw [h]; simp only [hn]; rfl
theorem Ywh {s a b:List Nat} {p:Nd} (h:Zcy 58 s=[a,b]) (hn:Znu a=some p):Ydw s=((Zcy 38 b).mapM Znu).map fun l=>(p,l):=by
 unfold Ydw; rw [h]; simp only [hn]; rfl
def Yxr (s:List Nat) (h:Zaa) (v:Zay) (h':Zaa):Prop:=Zbc h.length h h'∧((∃ i a c e,Ydw s=some i∧v=.tup [.agg [.str i.1.1,.str i.1.2,.slice a i.2.length c e],.bool true]∧i.2.length≤c∧Zds Zab eP h.length h' a i.2.length i.2) ∨ (Ydw s=none∧v=.tup [.agg [.str [],.str [],.slice none 0 0 true],.bool false]))
theorem Yet {s:List Nat} {h h':Zaa} {z:Nat} {cs:List Zay} (S:Zbc h.length h h') (hz:h.length≤z) (hi:h'[z]?=some (.cells Zad cs false)) (hl:cs.length=3) (hn:Ydw s=none) :
  Zbt (Zbb h' (.ptr (some (z,0))) [.str [],.str [],.slice none 0 0 true]) fun h_30=>Zcd (Zbe h_30 (.ptr (some (z,0))) 3) fun cs_31=>Zai cs_31 fun c_32 r_33=>Zbd (some c_32) fun s_34=>Zai r_33 fun c_35 r_36=>Zbd (some c_35) fun s_37=>Zai r_36 fun c_38 r_39=>xSl (some c_38) fun a_40 n_41 c_42 e_43=>Zbq r_39 (Yxr s h (.tup [.agg [.str s_34,.str s_37,.slice a_40 n_41 c_42 e_43],.bool false]) h_30):=by
 match cs,hl with
 | [x,y,w],_=>
  rw [Zbg hi (by simp)]
  simp only [Zas,putRow,List.take_zero,List.length_cons,List.length_nil,List.drop_succ_cons,List.drop_zero,List.drop_nil,List.cons_append,List.nil_append,List.append_nil,Nat.zero_add]
  rw [Zpb (Zce hi)]
  simp only [Zao,Zae,Zam,Zah,Zaj]
  exact ⟨S.set' hz,.inr ⟨hn,rfl⟩⟩
theorem Ygk {s:List Nat} {h h':Zaa} {z y:Nat} {cs:List Zay} {i:Ins} {a:Pt} {n c:Nat} {e:Bool} (S:Zbc h.length h h') (hz:h.length≤z) (hi:h'[z]?=some (.cells Zad cs false)) (hl:cs.length=3)
  (hy:h'[y]?=some (.cells Zad [.str i.1.1,.str i.1.2,.slice a n c e] false)) (hzy:z≠y) (hc:n≤c) (fr:Zds Zab eP h.length h' a n i.2) (hn:Ydw s=some i) :
  Zeq.J16 (Yxr s h) y 0 z 0 h':=by
 have hil:=fr.1
 subst hil
 match cs,hl with
 | [x,w,u],_=>
  apply Zeq.J16i
  rw [Zpb hy]
  simp only [Zao,Zae,Zam,Zah,Zaj]
  rw [Zbg hi (by simp)]
  simp only [Zas,putRow,List.take_zero,List.length_cons,List.length_nil,List.drop_succ_cons,List.drop_zero,List.drop_nil,List.cons_append,List.nil_append,List.append_nil,Nat.zero_add]
  rw [Zpb (Zce hi)]
  simp only [Zao,Zae,Zam,Zah,Zaj]
  refine ⟨S.set' hz,.inl ⟨i,a,c,e,hn,rfl,hc,fr.1,fr.2.imp id ?_⟩⟩
  rintro ⟨j,ha,hb,hj⟩
  exact ⟨j,ha,hb,by rw [Zbw (Zgr hi hj (by decide))]; exact hj⟩
theorem Zyp {h:Zaa} (s:List Nat) (hs:s.length≤1048576) (hb:∀ b∈s,b < 256):Zak pg Zkp [.str s] h (Yxr s h):=by
 apply Zeq.call
 simp only [Zaw]
 generalize hh0:h ++ [Zcb.cells Zad [.str [],.str [],.slice none 0 0 true] false]=h0
 have s0:Zbc h.length h h0:=by rw [← hh0]; exact Zal
 have z0:h0[h.length]?=some (.cells Zad [.str [],.str [],.slice none 0 0 true] false):=by rw [← hh0]; simp
 have l0:h0.length=h.length + 1:=by rw [← hh0]; simp
 refine (Ygh hs).mono ?_
 rintro v h2 ⟨s2,j,cpj,e,rfl,hj,hrow⟩
 have hLl:(Zcy 58 s).length≤1048577:=by have:=Zjr (c:=58) s; omega
 have hmem:∀ p∈Zcy 58 s,p.length≤1048576:=fun p hp=>by have:=Zig hp; omega
 have hby:=Zjs (c:=58) hb
 generalize hL:Zcy 58 s=L at hrow hLl hmem hby
 have S2:=s0.cat s2
 have z2:=s2.get z0 (Own.lt z0)
 have l2:=s2.le
 simp only [Zaj]
 generalize hh7:h2 ++ [Zcb.cells Zab [] false]=h7
 have s7:Zbc h2.length h2 h7:=by rw [← hh7]; exact Zal
 have e7:h7[h2.length]?=some (.cells Zab [] false):=by rw [← hh7]; simp
 have l7:h7.length=h2.length + 1:=by rw [← hh7]; simp
 generalize hh8:h7 ++ [Zcb.cells Zad [.str [],.str [],.slice none 0 0 true] false]=h8
 have s8:Zbc h7.length h7 h8:=by rw [← hh8]; exact Zal
 have o8:h8[h7.length]?=some (.cells Zad [.str [],.str [],.slice none 0 0 true] false):=by rw [← hh8]; simp
 have l8:h8.length=h7.length + 1:=by rw [← hh8]; simp
 rw [Zbg o8 (by simp)]
 simp only [Zas,putRow,List.take_zero,List.length_cons,List.length_nil,List.drop_succ_cons,List.drop_zero,List.drop_nil,List.cons_append,List.nil_append,List.append_nil,Nat.zero_add]
 have o9:=Zce o8 (x:=.cells Zad [.str [],.str [],.slice (some (h2.length,0)) 0 0 true] false)
 have s9:Zbc h7.length h7 (h8.set h7.length (.cells Zad [.str [],.str [],.slice (some (h2.length,0)) 0 0 true] false)):=s8.set' (Nat.le_refl _)
 have l9:(h8.set h7.length (.cells Zad [.str [],.str [],.slice (some (h2.length,0)) 0 0 true] false)).length=h8.length:=by simp
 generalize h8.set h7.length (.cells Zad [.str [],.str [],.slice (some (h2.length,0)) 0 0 true] false)=h9 at o9 s9 l9 ⊢
 have S29:=s7.cat s9
 have S9:=S2.cat S29
 have z9:=S29.get z2 (Own.lt z2)
 have e9:=s9.get e7 (Own.lt e7)
 have r9:=S29.get hrow (Own.lt hrow)
 have piece:∀ (G:Zaa),G[j]?=some (.cells Zbi (Zdb eS L) false)→∀ k (hk:k < L.length),Zag G (.ptr (some (j,k * 1)))=some (.str L[k]):=by
  intro G hG k hk
  obtain ⟨ii,o,hgl,hai,hii,hc⟩:=Row.el1 Zna ((Vec.mk1 (n:=0) (c:=0) hG).row (m:=L.length) (by rw [Zat Zna]; omega)) hk
  cases hai
  simpa [eS] using hc
 have hL0:0 < L.length:=by rw [← hL,Zlz]; omega
 refine ⟨⟨by omega,by omega⟩,?_⟩
 simp only [Zau,Nat.zero_add,show Int.toNat 0=0 from rfl,piece h9 r9 0 hL0,Zah]
 refine (Zwz L[0] (hmem _ (List.getElem_mem hL0)) (hby _ (List.getElem_mem hL0))).mono ?_
 rintro v h14 ⟨s14,hres⟩
 have S14:=S9.cat s14
 have z14:=s14.get z9 (Own.lt z9)
 have o14:=s14.get o9 (Own.lt o9)
 have r14:=s14.get r9 (Own.lt r9)
 have e14:=s14.get e9 (Own.lt e9)
 have l14:=s14.le
 obtain ⟨a0,rest,hLe⟩:∃ a r,L=a :: r:=by
  cases L with
  | nil=>simp at hL0
  | cons a r=>exact ⟨a,r,rfl⟩
 have h0e:L[0]=a0:=by simp [hLe]
 rcases hres with ⟨p,hp,rfl⟩ | ⟨hp,rfl⟩
 ·simp only [Zco,Zae,Zdt,Zah,Zam,Zaq]
  generalize hh28:h14 ++ [Zcb.cells Zab [.str [],.str []] false]=h28
  have s28:Zbc h14.length h14 h28:=by rw [← hh28]; exact Zal
  have n28:h28[h14.length]?=some (.cells Zab [.str [],.str []] false):=by rw [← hh28]; simp
  have l28:h28.length=h14.length + 1:=by rw [← hh28]; simp
  rw [Zbg n28 (by simp)]
  simp only [Zas,putRow,List.take_zero,List.length_cons,List.length_nil,List.drop_succ_cons,List.drop_zero,List.drop_nil,List.cons_append,List.nil_append,List.append_nil,Nat.zero_add,Bool.not_true,Zca]
  have n29:=Zce n28 (x:=.cells Zab [.str p.1,.str p.2] false)
  have s29:Zbc h14.length h14 (h28.set h14.length (.cells Zab [.str p.1,.str p.2] false)):=s28.set' (Nat.le_refl _)
  have l29:(h28.set h14.length (.cells Zab [.str p.1,.str p.2] false)).length=h28.length:=by simp
  generalize h28.set h14.length (.cells Zab [.str p.1,.str p.2] false)=h29 at n29 s29 l29 ⊢
  have S29':=S14.cat s29
  have z29:=s29.get z14 (Own.lt z14)
  have o29:=s29.get o14 (Own.lt o14)
  have r29:=s29.get r14 (Own.lt r14)
  have e29:=s29.get e14 (Own.lt e14)
  refine Zar (fun hgt=>?_) (fun hle=>?_)
  ·refine Yet S29' (Nat.le_refl _) z29 rfl ?_
   match rest,hLe with
   | [],hLe=>rw [hLe] at hgt; simp at hgt
   | [_],hLe=>rw [hLe] at hgt; simp at hgt
   | b :: c :: r,hLe=>exact Ysu (hL.trans hLe)
  apply Zeq.J6i
  rw [Zaz n29]
  simp only [Zao,Zae,Zam,Zah]
  rw [Zbg o29 (by simp)]
  simp only [Zas,putRow,List.take_zero,List.length_cons,List.length_nil,List.drop_succ_cons,List.drop_zero,List.drop_nil,List.cons_append,List.nil_append,List.append_nil,Nat.zero_add,Nat.add_zero]
  have hz7:h.length≠h7.length:=by omega
  have o30:=Zce o29 (x:=.cells Zad [.str p.1,.str p.2,.slice (some (h2.length,0)) 0 0 true] false)
  have k30:∀ j,j≠h7.length→(h29.set h7.length (.cells Zad [.str p.1,.str p.2,.slice (some (h2.length,0)) 0 0 true] false))[j]?=h29[j]?:=fun j hj=>Zbw (fun e=>hj e.symm)
  have l30:(h29.set h7.length (.cells Zad [.str p.1,.str p.2,.slice (some (h2.length,0)) 0 0 true] false)).length=h29.length:=by simp
  have S30:Zbc h.length h (h29.set h7.length (.cells Zad [.str p.1,.str p.2,.slice (some (h2.length,0)) 0 0 true] false)):=S29'.set' (by omega)
  generalize h29.set h7.length (.cells Zad [.str p.1,.str p.2,.slice (some (h2.length,0)) 0 0 true] false)=h30 at o30 k30 l30 S30 ⊢
  have hjl:=Own.lt hrow
  have z30:h30[h.length]?=some (.cells Zad [.str [],.str [],.slice none 0 0 true] false):=by rw [k30 _ hz7]; exact z29
  have r30:h30[j]?=some (.cells Zbi (Zdb eS L) false):=by rw [k30 _ (by omega)]; exact r29
  have e30:h30[h2.length]?=some (.cells Zab [] false):=by rw [k30 _ (by omega)]; exact e29
  refine Zcw (fun h2e=>?_) (fun hne=>?_)
  ·obtain ⟨b,rfl⟩:∃ b,rest=[b]:=by
    have:L.length=2:=by omega
    rw [hLe] at this
    match rest,this with
    | [b],_=>exact ⟨b,rfl⟩
   have hL1:1 < L.length:=by omega
   have h1e:L[1]=b:=by simp [hLe]
   have hbm:b∈L:=by rw [← h1e]; exact List.getElem_mem hL1
   refine ⟨⟨by omega,by omega⟩,?_⟩
   simp only [Zau,Nat.zero_add,show Int.toNat 1=1 from rfl,piece h30 r30 1 hL1,Zah,h1e]
   refine (Ygh (hmem b hbm)).mono ?_
   rintro v h31 ⟨s31,j2,cpj2,e2,rfl,hj2,hrow2⟩
   have hPl:(Zcy 38 b).length≤1048577:=by have:=Zjr (c:=38) b; have:=hmem b hbm; omega
   have hmem2:∀ p∈Zcy 38 b,p.length≤1048576:=fun p hp=>by have:=Zig hp; have:=hmem b hbm; omega
   have hby2:=Zjs (c:=38) (hby b hbm)
   have hins:=Ywh (hL.trans hLe) (by rw [← h0e]; exact hp)
   generalize hP:Zcy 38 b=P at hrow2 hPl hmem2 hby2 hins
   simp only [Zaj]
   have S31:=S30.cat s31
   have z31:=s31.get z30 (Own.lt z30)
   have o31:=s31.get o30 (Own.lt o30)
   have e31:=s31.get e30 (Own.lt e30)
   have hj2l:=Own.lt hrow2
   refine Zeq.L9ind (J:=fun (g:Nat) x41 h'=>x41=(g:Int)∧g≤P.length∧Zbc h.length h h'∧h'[h.length]?=some (.cells Zad [.str [],.str [],.slice none 0 0 true] false)∧h'[j2]?=some (.cells Zbi (Zdb eS P) false) ∧
     ∃ (l:List Nd) (q c:Nat) (e:Bool),(P.take g).mapM Znu=some l∧l.length=g∧h'[h7.length]?=some (.cells Zad [.str p.1,.str p.2,.slice (some (q,0)) g c e] false)∧h'[q]?=some (.cells Zab (Zdb eP l) false)∧h.length≤q∧g≤c) (m:=fun g=>P.length - g) (hr:=?_) (g:=0)
    (hj:=⟨rfl,by omega,S31,z31,hrow2,[],h2.length,0,true,by simp,rfl,o31,e31,by omega,Nat.le_refl _⟩) ..
   rintro g x41 h' ⟨rfl,hg,hS,hz,hr,l,q,c,e,hl,hll,ho,hq,hqb,hgc⟩ R hR
   unfold Zeq.L9t
   refine Zar (fun hlt=>?_) (fun hge=>?_)
   ·have hlt':g < P.length:=by omega
    obtain ⟨ii,oo,hgl,hai,hii,hc⟩:=Row.el1 Zna ((Vec.mk1 (n:=0) (c:=0) hr).row (m:=P.length) (by rw [Zat Zna]; omega)) hlt'
    cases hai
    simp only [Zau,Int.toNat_natCast,hc,eS,List.getElem?_cons_zero,Zah]
    refine ⟨by omega,(Zwz P[g] (hmem2 _ (List.getElem_mem hgl)) (hby2 _ (List.getElem_mem hgl))).mono ?_⟩
    rintro v k2 ⟨t2,hres⟩
    have hstep:(P.take (g + 1)).mapM Znu=(Znu P[g]).map fun y=>l ++ [y]:=by rw [List.take_succ_eq_append_getElem hgl,Ygi,hl]; rfl
    have T2:=hS.cat t2
    have zk:=t2.get hz (Own.lt hz)
    have ok:=t2.get ho (Own.lt ho)
    have qk:=t2.get hq (Own.lt hq)
    have rk:=t2.get hr (Own.lt hr)
    have tl:=t2.le
    have tl0:=hS.le
    have hol:=Own.lt ho
    have hzl:=Own.lt hz
    have hrl:=Own.lt hr
    have hql:=Own.lt hq
    rcases hres with ⟨p',hp',rfl⟩ | ⟨hp',rfl⟩
    ·simp only [Zco,Zae,Zdt,Zah,Zam,Zaq,Zaw]
     generalize hk3:k2 ++ [Zcb.cells Zab [.str [],.str []] false]=k3
     have t3:Zbc k2.length k2 k3:=by rw [← hk3]; exact Zal
     have n3:k3[k2.length]?=some (.cells Zab [.str [],.str []] false):=by rw [← hk3]; simp
     have tl3:k3.length=k2.length + 1:=by rw [← hk3]; simp
     rw [Zbg n3 (by simp)]
     simp only [Zas,putRow,List.take_zero,List.length_cons,List.length_nil,List.drop_succ_cons,List.drop_zero,List.drop_nil,List.cons_append,List.nil_append,List.append_nil,Nat.zero_add,Bool.not_true,Zca]
     have n4:=Zce n3 (x:=.cells Zab [.str p'.1,.str p'.2] false)
     have t4:Zbc k2.length k2 (k3.set k2.length (.cells Zab [.str p'.1,.str p'.2] false)):=t3.set' (Nat.le_refl _)
     have tl4:(k3.set k2.length (.cells Zab [.str p'.1,.str p'.2] false)).length=k3.length:=by simp
     generalize k3.set k2.length (.cells Zab [.str p'.1,.str p'.2] false)=k4 at n4 t4 tl4 ⊢
     have T4:=T2.cat t4
     have z4:=t4.get zk (Own.lt zk)
     have o4:=t4.get ok (Own.lt ok)
     have q4:=t4.get qk (Own.lt qk)
     have r4:=t4.get rk (Own.lt rk)
     simp only [Zan o4,List.getElem?_cons_succ,List.getElem?_cons_zero,Zaj]
     rw [Zaz n4]
     simp only [Zao,Zae,Zam,Zah]
     refine (Vec.mk1 (n:=g) (c:=c) q4).pushN (sz:=2) Zhi Zng Zni Znh (by rw [Zat Zcr,hll]) rfl (by omega) rfl (by omega) (fun k5 hl5 hi5 hk5=>?_)
     have keep:∀ {x:Nat} {y:Zcb},k4[x]?=some y→x≠q→k5[x]?=some y:=fun {x y} hx hne=>by rw [hk5 x (Own.lt hx) (fun i hi=>by cases hi; exact hne)]; exact hx
     have hqo:h7.length≠q:=Zgr o4 q4 (by decide)
     have hqz:h.length≠q:=Zgr z4 q4 (by decide)
     have hqr:j2≠q:=Zgr r4 q4 (by decide)
     have o5:=keep o4 hqo
     simp only [Zaj]
     rw [Zbg o5 (by simp)]
     simp only [Zas,putRow,List.take_succ_cons,List.take_zero,List.length_cons,List.length_nil,List.drop_succ_cons,List.drop_zero,List.drop_nil,List.cons_append,List.nil_append,List.append_nil]
     rw [Zbm (by omega)]
     have z5:=keep z4 hqz
     have r5:=keep r4 hqr
     refine hR (g + 1) _ _ (by omega) ⟨rfl,by omega,?_,by rw [Zbw (Ne.symm hz7)]; exact z5,by rw [Zbw (Zgr o5 r5 (by decide))]; exact r5,l ++ [p'],k4.length + 1,g + 1,false,by rw [hstep,hp']; rfl,by simp [hll],Zce o5,?_,by omega,Nat.le_refl _⟩
     ·exact Zbc.set' ⟨by omega,fun x hx=>by rw [hk5 x (by omega) (fun i hi=>by cases hi; omega)]; exact T4.eq x hx⟩ (by omega)
     ·rw [Zbw (by omega)]; simpa [eP] using hi5
    ·simp only [Zco,Zae,Zdt,Zah,Zam,Zaq,Zaw]
     generalize hk3:k2 ++ [Zcb.cells Zab [.str [],.str []] false]=k3
     have t3:Zbc k2.length k2 k3:=by rw [← hk3]; exact Zal
     have n3:k3[k2.length]?=some (.cells Zab [.str [],.str []] false):=by rw [← hk3]; simp
     rw [Zbg n3 (by simp)]
     simp only [Zas,Bool.not_false,Zcv]
     have t4:Zbc k2.length k2 (k3.set k2.length (.cells Zab (putRow [.str [],.str []] 0 [.str [],.str []]) false)):=t3.set' (Nat.le_refl _)
     refine Yet (T2.cat t4) (Nat.le_refl _) (t4.get zk (Own.lt zk)) rfl ?_
     rw [hins,Zyz (k:=g + 1) Znu (by rw [hstep,hp']; rfl)]; rfl
   ·apply Zeq.A9x0i
    have:g=P.length:=by omega
    subst this
    rw [List.take_length] at hl
    exact Ygk (i:=(p,l)) hS (Nat.le_refl _) hz rfl ho hz7 hgc ⟨hll,.inr ⟨q,rfl,hqb,hq⟩⟩ (by rw [hins,hl]; rfl)
  ·obtain rfl:rest=[]:=by
    match rest,hLe with
    | [],_=>rfl
    | [_],hLe=>exact absurd (by rw [hLe]; rfl) hne
    | _ :: _ :: _,hLe=>rw [hLe] at hle; simp at hle; omega
   exact Ygk (i:=(p,[])) S30 (Nat.le_refl _) z30 rfl o30 hz7 (Nat.le_refl _) ⟨rfl,.inl rfl⟩ (Ywj (hL.trans hLe) (by rw [← h0e]; exact hp))
 ·simp only [Zco,Zae,Zdt,Zah,Zam,Zaq]
  generalize hh28:h14 ++ [Zcb.cells Zab [.str [],.str []] false]=h28
  have s28:Zbc h14.length h14 h28:=by rw [← hh28]; exact Zal
  have n28:h28[h14.length]?=some (.cells Zab [.str [],.str []] false):=by rw [← hh28]; simp
  rw [Zbg n28 (by simp)]
  simp only [Zas,Bool.not_false,Zcv]
  have s29:Zbc h14.length h14 (h28.set h14.length (.cells Zab (putRow [.str [],.str []] 0 [.str [],.str []]) false)):=s28.set' (Nat.le_refl _)
  exact Yet (S14.cat s29) (Nat.le_refl _) (s29.get z14 (Own.lt z14)) rfl (Ysk (hL.trans hLe) (by rw [← h0e]; exact hp))
end Go.Sim

set_option linter.unusedVariables false
set_option linter.unusedSimpArgs false
set_option maxRecDepth 20000
namespace Go.Sim
open Go Go.RowKit

theorem Ydv {h:Zaa} {s:List Nat} {c:Nat} (hs:s.length≤1048576):Zak pg Zis [.str s,.int .u8 (c:Int)] h fun v h'=>Zbc h.length h h' ∧
  ∃ j cp e,v=.slice (some (j,0)) (Zcy c s).length cp e∧h.length≤j∧(h'[j]?=some (.cells Zbi (Zdb eS (Zcy c s)) false)∧(Zcy c s).length≤cp):=by
 apply Zdi.call
 simp only [Zaw]
 refine Zdi.L4ind _ _ _ (J:=fun (g:Nat) a5 n5 c5 e5 x6 x7 h'=>x7=(g:Int)∧g≤s.length + 1∧Zbc h.length h h'∧∃ (done:List (List Nat)) (from_:Nat),n5=done.length∧x6=(from_:Int)∧done.length≤g∧Vec Zbi h' a5 n5 c5 (strs done)∧(∀ i,a5=some (i,0)→h.length≤i) ∧
   (g≤s.length→from_≤g∧c ∉ (s.take g).drop from_∧Zcy c s=done ++ Zcy c (s.drop from_))∧(g=s.length + 1→Zcy c s=done)∧n5≤c5) (fun g=>s.length + 1 - g) ?_ 0 _ _ _ _ _ _ _
  ⟨rfl,by omega,Zbc.app (Nat.le_refl _) _,[],0,rfl,rfl,by simp,Vec.mk1 (by simp),by simp,fun _=>⟨by omega,by simp,by simp⟩,by omega,Nat.le_refl _⟩
 rintro g a5 n5 c5 e5 x6 x7 h' ⟨rfl,hg,hS,done,from_,rfl,rfl,hdl,hv,ha,hin,hout,hc5⟩ R hR
 unfold Zdi.L4t
 refine Zar (fun hle=>?_) (fun hgt=>?_)
 ·obtain ⟨hf,hnc,hsp⟩:=hin (by omega)
  have push:∀ p,(∀ a n e h4,Zbc h.length h h4→n=done.length + 1→Vec Zbi h4 a n n (strs (done ++ [p]))→(∀ i,a=some (i,0)→h.length≤i)→Zdi.J5 (fun v h'=>Zbc h.length h h'∧∃ j cp e,v=.slice (some (j,0)) (Zcy c s).length cp e∧h.length≤j∧(h'[j]?=some (.cells Zbi (Zdb eS (Zcy c s)) false)∧(Zcy c s).length≤cp)) R (g:Int) s (c:Int) a n n e (IntKind.wrap .i64 ((g:Int) + 1)) h4) →
    Zci pg Zka (h' ++ [.cells Zbi [.str p] false]) (.slice a5 done.length c5 e5) (.slice (some (List.length h',0)) 1 1 true) fun v_2 h_3=>xSl (some v_2) fun a_4 n_5 c_6 e_7=>Zdi.J5 (fun v h'=>Zbc h.length h h'∧∃ j cp e,v=.slice (some (j,0)) (Zcy c s).length cp e∧h.length≤j∧(h'[j]?=some (.cells Zbi (Zdb eS (Zcy c s)) false)∧(Zcy c s).length≤cp)) R (g:Int) s (c:Int) a_4 n_5 c_6 e_7 (IntKind.wrap .i64 ((g:Int) + 1)) h_3:=by
   intro p K
   refine hv.push Ydy Yls Ymm Ylz (by simp) rfl (by omega) (fun h4 hl4 hi4 hk4=>?_)
   simp only [Zaj]
   have hle:=hS.le
   refine K _ _ _ _ ⟨by omega,fun j hj=>?_⟩ rfl (Vec.mk1 (by simpa [strs] using hi4)) (fun i hi=>by cases hi; omega)
   rw [hk4 j (by omega) fun i hi=>by have:=ha i hi; omega]; exact hS.eq j hj
  refine Zcw (fun he=>?_) (fun hne=>?_)
  ·have hgs:g=s.length:=by omega
   subst hgs
   rw [Yfq (j:=from_) (k:=s.length) rfl rfl,List.take_length]
   rw [List.take_length] at hnc
   refine ⟨⟨by omega,by omega,by omega⟩,push _ fun a n e h4 hS4 hn4 hv4 ha4=>Zdi.J5i _ _ _ _ _ _ _ _ _ _ _ ?_⟩
   rw [Zbm (by omega)]
   subst hn4
   exact hR (s.length + 1) _ _ _ _ _ _ _ (by omega) ⟨rfl,by omega,hS4,done ++ [s.drop from_],s.length + 1,by simp,rfl,by simp; omega,by simpa using hv4,ha4,by omega,fun _=>by rw [hsp,Zwd hnc],Nat.le_refl _⟩
  ·have hlt:g < s.length:=by omega
   refine ⟨⟨by omega,by omega⟩,?_⟩
   rw [Int.toNat_natCast,Zzz hlt]
   have htk:(s.take (g + 1)).drop from_=(s.take g).drop from_ ++ [s[g]]:=by
    rw [List.take_succ_eq_append_getElem hlt,List.drop_append_of_le_length (by simp; omega)]
   have hdr:s.drop from_=(s.take g).drop from_ ++ s[g] :: s.drop (g + 1):=by
    conv=>lhs; rw [← List.take_append_drop g s]
    rw [List.drop_append_of_le_length (by simp; omega),List.drop_eq_getElem_cons hlt]
   refine Zcw (fun he=>?_) (fun hne2=>?_)
   ·have hec:s[g]=c:=by omega
    rw [Yfq (j:=from_) (k:=g) rfl rfl]
    refine ⟨⟨by omega,by omega,by omega⟩,push _ fun a n e h4 hS4 hn4 hv4 ha4=>Zdi.J5i _ _ _ _ _ _ _ _ _ _ _ ?_⟩
    rw [Zbm (by omega)]
    subst hn4
    refine hR (g + 1) _ _ _ _ _ _ _ (by omega) ⟨rfl,by omega,hS4,done ++ [(s.take g).drop from_],g + 1,by simp,rfl,by simp; omega,by simpa using hv4,ha4,fun _=>⟨by omega,by simp,?_⟩,by omega,Nat.le_refl _⟩
    rw [hsp,hdr,hec,Zxx hnc]; simp
   ·apply Zdi.J5i
    rw [Zbm (by omega)]
    refine hR (g + 1) _ _ _ _ _ _ _ (by omega) ⟨rfl,by omega,hS,done,from_,rfl,rfl,by omega,hv,ha,fun _=>⟨by omega,?_,hsp⟩,by omega,hc5⟩
    rw [htk]
    simp only [List.mem_append,List.mem_singleton,not_or]
    exact ⟨hnc,fun e=>hne2 (by rw [e])⟩
 ·have:g=s.length + 1:=by omega
  have hd:=hout this
  apply Zdi.A4x0i
  rw [hd]
  rcases hv with ⟨_,_,_,h0⟩ | ⟨i,rfl,hi⟩
  ·exact absurd (by rw [hd]; exact List.map_eq_nil_iff.1 h0) (Zrt c s)
  ·exact ⟨hS,_,_,_,rfl,ha i rfl,by rw [Yiz]; exact hi,hc5⟩
end Go.Sim
