/- A part of the proof of a statement of this seat: see the text that holds the theorem. No condition. -/
import Derived.Test.YtflfcofeedjblaaGreatPTCVars
import Derived.Test.YtflfcofeedjblaaGreatCTy
import Derived.Test.YtflfcofeedjblaaGreatNm
import Derived.Test.YtflfcofeedjblaaGreatSimX
set_option linter.unusedVariables false
set_option linter.unusedSimpArgs false
set_option linter.all false
set_option linter.unusedVariables false
set_option linter.unusedSimpArgs false
set_option maxRecDepth 20000
namespace Go.Sim
open Go Go.RowKit

theorem Yrz {s:List Nat} {c g:Nat} (h:s[g]?=some c) (hn:c ∉ s.take g):Zvf s c=g:=by
 induction s generalizing g with
 | nil=>simp at h
 | cons b s ih=>
  cases g with
  | zero=>simp at h; subst h; simp [Zvf]
  | succ g=>
   simp at h hn
   have:=ih h hn.2
   have hb:¬ b=c:=fun e=>hn.1 e.symm
   simp only [Zvf,beq_iff_eq,hb,if_false,this]
   rw [if_neg (by omega)]; omega
theorem Zze {s:List Nat} {c:Nat} (hn:c ∉ s):Zvf s c=-1:=by
 have:=(You s c).2 hn; have:=Ykz s c; omega
theorem Zwx {s:List Nat} {g:Nat} (h:g < s.length):s.getD g 0=s[g]:=by simp [List.getD,h]
theorem Ybz {h:Zaa} (s:List Nat) (c:Nat) (hs:s.length≤9223372036854775807):Zah pg Zhi [.str s,.int .u8 (c:Int)] h fun v h'=>v=.int .i64 (Zvf s c)∧h'=h:=by
 apply Zjh.call
 refine Zjh.L2ind _ _ _ (J:=fun (g:Nat) x5 h'=>x5=(g:Int)∧h'=h∧g≤s.length∧c ∉ s.take g) (fun g=>s.length - g) ?_ 0 _ _ ⟨rfl,rfl,by omega,by simp⟩
 rintro g x5 h' ⟨rfl,rfl,hg,hn⟩ R hR
 unfold Zjh.L2t
 refine Zat (fun hlt=>?_) (fun hge=>?_)
 ·have hlt':g < s.length:=by omega
  refine ⟨⟨by omega,by omega⟩,?_⟩
  rw [Int.toNat_natCast,Zwx hlt']
  refine Zcx (fun he=>?_) (fun he=>?_)
  ·exact ⟨by rw [Yrz (g:=g) (by rw [List.getElem?_eq_getElem hlt',Int.ofNat.inj he]) hn],rfl⟩
  ·rw [IntWalk.i64_in _ (by omega)]
   refine hR (g + 1) _ _ (by omega) ⟨by omega,rfl,by omega,?_⟩
   rw [List.take_succ_eq_append_getElem hlt']
   simp only [List.mem_append,List.mem_singleton,not_or]
   exact ⟨hn,fun e=>he (by rw [e])⟩
 ·have:g=s.length:=by omega
  subst this
  rw [List.take_length] at hn
  apply Zjh.A2x0i
  rw [Zze hn]; exact ⟨rfl,rfl⟩
theorem Ysx (c:Nat):(if Zvf [105,98,117,108,109,112,120,121,122,88,89,90] c < 0 then (-1:Int) else if Zvf [105,98,117,108,109,112,120,121,122,88,89,90] c=3 then 1 else if Zvf [105,98,117,108,109,112,120,121,122,88,89,90] c=4 then 1 else if Zvf [105,98,117,108,109,112,120,121,122,88,89,90] c=5 then 2 else 0)=arN c:=by
 by_cases h:c∈[105,98,117,108,109,112,120,121,122,88,89,90]
 ·simp at h
  rcases h with rfl | rfl | rfl | rfl | rfl | rfl | rfl | rfl | rfl | rfl | rfl | rfl <;> rfl
 ·rw [Zze h]
  simp at h
  simp [arN,Zkl,Zcr,h]
theorem Yrv (c:Nat):decide (Zvf [105,98,117,108,109,112,120,121,122,88,89,90] c ≥ 6)=Zcr c:=by
 by_cases h:c∈[105,98,117,108,109,112,120,121,122,88,89,90]
 ·simp at h
  rcases h with rfl | rfl | rfl | rfl | rfl | rfl | rfl | rfl | rfl | rfl | rfl | rfl <;> rfl
 ·rw [Zze h]
  simp at h
  simp [Zcr,h]
theorem Yjn {h:Zaa} (c:Nat):Zah pg Zlu [.int .u8 (c:Int)] h fun v h'=>v=.int .i64 (arN c)∧h'=h:=by
 apply Zpd.call
 refine (Ybz _ c (by simp)).mono ?_
 rintro v h1 ⟨rfl,rfl⟩
 simp only [Zar]
 rw [← Ysx c]
 generalize Zvf [105,98,117,108,109,112,120,121,122,88,89,90] c=k
 refine Zat (fun hk=>?_) (fun hk=>?_)
 ·rw [if_pos hk]; exact ⟨rfl,by trivial⟩
 ·rw [if_neg hk]
  refine Zcx (fun h3=>?_) (fun h3=>?_)
  ·rw [if_pos h3]; exact ⟨rfl,by trivial⟩
  ·rw [if_neg h3]
   refine Zcx (fun h4=>?_) (fun h4=>?_)
   ·rw [if_pos h4]; exact ⟨rfl,by trivial⟩
   ·rw [if_neg h4]
    refine Zcx (fun h5=>?_) (fun h5=>?_)
    ·rw [if_pos h5]; exact ⟨rfl,by trivial⟩
    ·rw [if_neg h5]; apply Zpd.J8i; exact ⟨rfl,by trivial⟩

def rdr (s:List Nat) (k:Nat) (b:Bool):Zcd:=.cells Zdv [.str s,.int .i64 (k:Int),.bool b] false
theorem Ymv {s:List Nat} {k:Nat} (h:k < s.length):s.drop k=s[k] :: s.drop (k + 1):=List.drop_eq_getElem_cons h
theorem Yfh {h:Zaa} {i:Nat} {s:List Nat} {k:Nat} {b:Bool} (hi:h[i]?=some (rdr s k b)) (hk:k≤s.length) (hs:s.length≤9223372036854775807):Zah pg Zfq [.ptr (some (i,0))] h fun v h'=>
  (∃ c:Nat,s.drop k=c :: s.drop (k + 1)∧k < s.length∧v=.int .u8 (c:Int)∧h'=h.set i (rdr s (k + 1) b)) ∨ (s.drop k=[]∧v=.int .u8 0∧h'=h.set i (rdr s k true)):=by
 unfold rdr at hi
 apply Zmz.call
 simp only [Zav,Zao hi,Nat.zero_add,List.getElem?_cons_zero,List.getElem?_cons_succ,Zar,Zal]
 refine ⟨by trivial,Zat (fun hge=>?_) (fun hl=>?_)⟩
 ·rw [Zbd hi (by simp)]
  exact .inr ⟨List.drop_eq_nil_of_le (by omega),by trivial,rfl⟩
 ·have hl':k < s.length:=by omega
  rw [Zbd hi (by simp)]
  simp only [Zas,Zao (Zbz hi)]
  rw [IntWalk.i64_in _ (by omega)]
  simp only [putRow,List.take_succ_cons,List.take_zero,List.length_cons,List.length_nil,List.cons_append,List.nil_append,List.drop_succ_cons,List.drop_zero,List.getElem?_cons_zero,List.getElem?_cons_succ,Zar,Zal]
  rw [IntWalk.i64_in _ (by omega)]
  refine ⟨by trivial,⟨by omega,by omega⟩,.inl ⟨s[k],Ymv hl',hl',?_,?_⟩⟩
  ·have:((k:Int) + 1 - 1).toNat=k:=by omega
   rw [this,Zwx hl']
  ·simp [rdr]
def Zhp (S:Nat→Prop) (h:Zaa):Ty→List Zau→Prop
 | .k d,v=>∃ a c e,v=[.int .u8 (d:Int),.slice a 0 c e]
 | .u d x,v=>∃ j c e r,v=[.int .u8 (d:Int),.slice (some (j,0)) 1 c e]∧S j∧h[j]?=some (.cells Zai r false)∧Zhp S h x r
 | .w d x y,v=>∃ j c e r r',v=[.int .u8 (d:Int),.slice (some (j,0)) 2 c e]∧S j∧h[j]?=some (.cells Zai (r ++ r') false)∧Zhp S h x r∧Zhp S h y r'
theorem Zhp.mono {S S':Nat→Prop} {h:Zaa} (hs:∀ i,S i→S' i):∀ {t:Ty} {v:List Zau},Zhp S h t v→Zhp S' h t v
 | .k d,_,h=>h
 | .u d x,_,⟨j,c,e,r,hv,sj,hj,hr⟩=>⟨j,c,e,r,hv,hs _ sj,hj,hr.mono hs⟩
 | .w d x y,_,⟨j,c,e,r,r',hv,sj,hj,hr,hr'⟩=>⟨j,c,e,r,r',hv,hs _ sj,hj,hr.mono hs,hr'.mono hs⟩
theorem Zhp.agree {S:Nat→Prop} {h h':Zaa} (hh:∀ i,S i→h'[i]?=h[i]?):∀ {t:Ty} {v:List Zau},Zhp S h t v→Zhp S h' t v
 | .k d,_,h=>h
 | .u d x,_,⟨j,c,e,r,hv,sj,hj,hr⟩=>⟨j,c,e,r,hv,sj,by rw [hh j sj]; exact hj,hr.agree hh⟩
 | .w d x y,_,⟨j,c,e,r,r',hv,sj,hj,hr,hr'⟩=>⟨j,c,e,r,r',hv,sj,by rw [hh j sj]; exact hj,hr.agree hh,hr'.agree hh⟩
theorem Zhp.shape {S:Nat→Prop} {h:Zaa} {t:Ty} {v:List Zau} (r:Zhp S h t v):∃ a c e,v=[.int .u8 (t.hd:Int),.slice a t.ps.length c e]:=by
 cases t with
 | k d=>exact r
 | u d x=>obtain ⟨j,c,e,r,hv,_⟩:=r; exact ⟨_,c,e,hv⟩
 | w d x y=>obtain ⟨j,c,e,r,r',hv,_⟩:=r; exact ⟨_,c,e,hv⟩
theorem Zhp.len {S:Nat→Prop} {h:Zaa} {t:Ty} {v:List Zau} (r:Zhp S h t v):v.length=2:=by obtain ⟨a,c,e,rfl⟩:=r.shape; rfl
theorem Zhp.leaf {S:Nat→Prop} {h:Zaa} {t:Ty} {v:List Zau} (r:Zhp S h t v):v.all Zau.leaf=true:=by obtain ⟨a,c,e,rfl⟩:=r.shape; rfl
theorem Zhp.parts {S:Nat→Prop} {h:Zaa} {t:Ty} {v:List Zau} (r:Zhp S h t v):∃ a c e,∃ vs:List (List Zau),v=[.int .u8 (t.hd:Int),.slice a t.ps.length c e]∧Row h.length h a (t.ps.length * 2) vs.flatten ∧
  (∀ j o,t.ps.length≠0→a=some (j,o)→S j)∧vs.length=t.ps.length∧∀ (k:Nat) (w:List Zau) (x:Ty),vs[k]?=some w→t.ps[k]?=some x→Zhp S h x w:=by
 cases t with
 | k d=>obtain ⟨a,c,e,rfl⟩:=r; exact ⟨a,c,e,[],rfl,Row.nil,fun _ _ h=>absurd rfl h,rfl,by simp⟩
 | u d x=>
  obtain ⟨j,c,e,r,rfl,sj,hj,hr⟩:=r
  have hl:=hr.len
  refine ⟨_,c,e,[r],rfl,⟨by simp [Ty.ps,hl],.inr ⟨j,0,_,_,_,rfl,Own.lt hj,hj,by simp [Ty.ps,hl],by simp [Ty.ps]; rw [List.take_of_length_le (by omega)]⟩⟩,fun j' o' _ e=>by cases e; exact sj,rfl,?_⟩
  intro k w x' h1 h2
  cases k with
  | zero=>simp [Ty.ps] at h1 h2; subst h1; subst h2; exact hr
  | succ k=>simp at h1
 | w d x y=>
  obtain ⟨j,c,e,r,r',rfl,sj,hj,hr,hr'⟩:=r
  have hl:=hr.len
  have hl':=hr'.len
  refine ⟨_,c,e,[r,r'],rfl,⟨by simp [Ty.ps,hl,hl'],.inr ⟨j,0,_,_,_,rfl,Own.lt hj,hj,by simp [Ty.ps,hl,hl'],by simp [Ty.ps]; rw [List.take_of_length_le (by simp; omega)]⟩⟩,fun j' o' _ e=>by cases e; exact sj,rfl,?_⟩
  intro k w x' h1 h2
  match k with
  | 0=>simp [Ty.ps] at h1 h2; subst h1; subst h2; exact hr
  | 1=>simp [Ty.ps] at h1 h2; subst h1; subst h2; exact hr'
  | k + 2=>simp at h1
theorem Zhp.make {S:Nat→Prop} {h:Zaa} {t:Ty} {j n c:Nat} {e:Bool} {vs:List (List Zau)} (hn:n=t.ps.length) (sj:S j) (hj:h[j]?=some (.cells Zai vs.flatten false)) (hl:vs.length=n)
  (hq:∀ (k:Nat) (w:List Zau) (x:Ty),vs[k]?=some w→t.ps[k]?=some x→Zhp S h x w):Zhp S h t [.int .u8 (t.hd:Int),.slice (some (j,0)) n c e]:=by
 subst hn
 cases t with
 | k d=>exact ⟨_,c,e,rfl⟩
 | u d x=>
  match vs,hl with
  | [r],_=>exact ⟨j,c,e,r,rfl,sj,by simpa using hj,hq 0 r x rfl rfl⟩
 | w d x y=>
  match vs,hl with
  | [r,r'],_=>exact ⟨j,c,e,r,r',rfl,sj,by simpa using hj,hq 0 r x rfl rfl,hq 1 r' y rfl rfl⟩

theorem Yka:pg.underlying Zkj=some (.slice Zai):=by kernel_rfl
theorem Yqb:pg.cellsOf Zai=2:=by kernel_rfl
theorem Ypn:pg.okElem Zai=true:=by kernel_rfl
theorem Ypg:pg.bytesOf Zai≤127:=Nat.le_of_ble_eq_true (by kernel_rfl)
theorem Ylk (vs:List (List Zau)) (r:List Zau):(vs ++ [r]).flatten=vs.flatten ++ r:=by simp
theorem Ypq {vs:List (List Zau)} (h:∀ v∈vs,v.length=2):vs.flatten.length=vs.length * 2:=by
 induction vs with
 | nil=>rfl
 | cons v vs ih=>rw [List.flatten_cons,List.length_append,h v (by simp),ih fun w hw=>h w (by simp [hw]),List.length_cons]; omega
theorem Yuh {c:Nat} {ps:List Ty} (hok:∀ p∈ps,p.ok=true) (ha:arN c=ps.length):∃ t:Ty,t.ok=true∧t.hd=c∧t.ps=ps:=by
 match ps,ha,hok with
 | [],h0,_=>
  refine ⟨.k c,?_,rfl,rfl⟩
  simp only [Ty.ok]
  cases hl:Zkl c with
  | true=>rfl
  | false => unfold arN at h0; rw [hl] at h0; simp at h0; split at h0 <;> try split at h0
             all_goals omega
 | [x],h0,hok=>
  refine ⟨.u c x,?_,rfl,rfl⟩
  simp only [Ty.ok,hok x (by simp),Bool.and_true,Bool.or_eq_true,beq_iff_eq]
  simp at h0
  unfold arN at h0; split at h0
  ·omega
  ·split at h0
   ·rename_i h; simpa using h
   ·split at h0 <;> omega
 | [x,y],h0,hok=>
  refine ⟨.w c x y,?_,rfl,rfl⟩
  simp only [Ty.ok,hok x (by simp),hok y (by simp),Bool.and_true,beq_iff_eq]
  simp at h0
  unfold arN at h0; split at h0
  ·omega
  ·split at h0
   ·omega
   ·split at h0
    ·rename_i h; simpa using h
    ·omega
 | _ :: _ :: _ :: r,h0,_=>
  simp at h0; unfold arN at h0; split at h0 <;> try split at h0
  all_goals try split at h0
  all_goals omega
theorem Ytl (t:Ty) (r:List Nat):t.txt ++ r=t.hd :: (Yce t.ps ++ (if t.ps=[] then r else 41 :: r)):=by
 cases t <;> simp [Ty.txt,Ty.hd,Ty.ps,Yce]
def Zzf (i:Nat) (s:List Nat) (k:Nat) (h:Zaa) (v:Zau) (h':Zaa):Prop:=
 Zdu i h h'∧∃ (d:Nat) (a:Pt) (n c:Nat) (e:Bool) (k':Nat) (bad:Bool),v=.agg [.int .u8 (d:Int),.slice a n c e]∧h'[i]?=some (rdr s k' bad)∧k'≤s.length ∧
  ((bad=false∧∃ t,Zim (s.drop k) t (s.drop k')∧Zhp (Btw h.length h'.length) h' t [.int .u8 (d:Int),.slice a n c e]) ∨ (bad=true∧∀ t r,¬ Zim (s.drop k) t r))

theorem Zxd {s:List Nat} {k i:Nat} {h h':Zaa} {k1 c i2 i3 n cp:Nat} {bad e:Bool} {a:Pt} {x y:Zau} (hil:i < h.length) (hK:Zdu i h h') (hgi:h'[i]?=some (rdr s k1 bad)) (hk1:k1≤s.length)
  (hi2:h'[i2]?=some (.cells Zai [x,y] false)) (hl2:h.length≤i2) (hne:i2≠i3) (hi3:h'[i3]?=some (.cells Zai [.int .u8 (c:Int),.slice a n cp e] false))
  (hfin:(bad=false∧∃ t,Zim (s.drop k) t (s.drop k1)∧Zhp (fun x=>Btw h.length h'.length x∧x≠i2) h' t [.int .u8 (c:Int),.slice a n cp e]) ∨ (bad=true∧∀ t r,¬ Zim (s.drop k) t r)) :
  Zbo.J12 (Zzf i s k h) i3 0 i2 0 h':=by
 apply Zbo.J12i
 rw [Zef hi3 (by simp)]
 simp only [List.drop_zero,List.take_succ_cons,List.take_zero,Zaq,Zaf,Zar,Zae,Zan]
 rw [Zbd hi2 (by simp)]
 simp only [Zas]
 rw [Zef (Zbz hi2) (by simp [putRow])]
 simp only [putRow,List.take_zero,List.nil_append,List.length_cons,List.length_nil,List.cons_append,List.drop_succ_cons,List.drop_zero,List.drop_nil,List.append_nil,List.take_succ_cons,Zaq,Zaf,Zar,Zae,Zan]
 refine ⟨hK.trans' ?_,c,a,n,cp,e,k1,bad,rfl,by rw [Zbs (by omega)]; exact hgi,hk1,?_⟩
 ·exact fun j hj=>Zbs (by omega)
 ·rcases hfin with ⟨hb,t,ho,hr⟩ | hb
  ·refine .inl ⟨hb,t,ho,?_⟩
   refine Zhp.mono (S:=fun x=>Btw h.length h'.length x∧x≠i2) (fun z hz=>by simpa using hz.1) (hr.agree fun z hz=>Zbs (fun e=>hz.2 e.symm))
  ·exact .inr hb
theorem Yry {s:List Nat} (hs:s.length≤9223372036854775807) {k i:Nat} {h:Zaa} (hil:i < h.length)
  (ih:∀ k',k < k'→k'≤s.length→∀ (h:Zaa),h[i]?=some (rdr s k' false)→Zah pg Zez [.ptr (some (i,0))] h (Zzf i s k' h))
  {g:Zaa} {c k1 i2 i3 j0:Nat} {bad:Bool} (hK:Zdu i h g) (hgi:g[i]?=some (rdr s k1 bad)) (hk1:k1≤s.length) (hl2:h.length≤i2) (hl3:h.length≤i3) (hlj:h.length≤j0)
  (hne:i2≠i3) (hne2:i2≠j0) (hne3:i3≠j0) (hi2:g[i2]?=some (.cells Zai [.int .u8 0,.slice none 0 0 true] false)) (hi3:g[i3]?=some (.cells Zai [.int .u8 (c:Int),.slice (some (j0,0)) 0 0 true] false))
  (hj0:g[j0]?=some (.cells Zai [] false))
  (hcase:(bad=false∧k < k1∧s.drop k=c :: s.drop k1∧0≤arN c) ∨ (bad=true∧∀ t r,¬ Zim (s.drop k) t r)) :
  Zbo.J4 (Zzf i s k h) (some (i,0)) i2 0 i3 0 (arN c) g:=by
 apply Zbo.J4i
 have hm2 : arN c ≤ 2 := by unfold arN; split <;> try split
                            all_goals try split
                            all_goals omega
 have hi2l:=Own.lt hi2
 have hi3l:=Own.lt hi3
 refine Zbo.L5ind _ _ _ _ _ _ _ (J:=fun (q:Nat) x5 h'=>x5=(q:Int)∧∃ (bad:Bool) (k1 n cp:Nat) (e:Bool) (j:Nat),Zdu i h h'∧h'[i]?=some (rdr s k1 bad)∧k1≤s.length ∧
   h'[i2]?=some (.cells Zai [.int .u8 0,.slice none 0 0 true] false)∧h'[i3]?=some (.cells Zai [.int .u8 (c:Int),.slice (some (j,0)) n cp e] false)∧h.length≤j∧i2≠j∧i3≠j∧i2 < h'.length∧i3 < h'.length ∧
   ((bad=true∧∀ t r,¬ Zim (s.drop k) t r) ∨ (bad=false∧k < k1∧n=q∧(q:Int)≤arN c∧∃ (ps:List Ty) (vs:List (List Zau)),ps.length=q∧vs.length=q∧(∀ p∈ps,p.ok=true)∧s.drop k=c :: (Yce ps ++ s.drop k1) ∧
    h'[j]?=some (.cells Zai vs.flatten false)∧(∀ v∈vs,v.length=2)∧∀ (kk:Nat) (v:List Zau) (x:Ty),vs[kk]?=some v→ps[kk]?=some x→∃ lo hi,h.length≤lo∧i2 < lo∧i3 < lo∧hi≤h'.length∧¬ Btw lo hi j∧Zhp (Btw lo hi) h' x v)))
  (fun q=>(arN c).toNat - q) ?_ 0 _ _ ⟨rfl,bad,k1,0,0,true,j0,hK,hgi,hk1,hi2,hi3,hlj,hne2,hne3,hi2l,hi3l,?_⟩
 ·rintro q x5 h' ⟨rfl,bad,k1,n,cp,e,j,hK,hgi,hk1,hi2,hi3,hlj,hn2,hn3,hl2',hl3',hst⟩ R hR
  have over:¬ (bad=false∧(q:Int) < arN c)→Zbo.A5x0 (Zzf i s k h) (arN c) (some (i,0)) i3 0 i2 0 h':=by
   intro hgo
   ·skip
    apply Zbo.A5x0i
    rcases hst with ⟨hb,hno⟩ | ⟨hb,hkk,rfl,hq,ps,vs,hps,hvs,hok,hdr,hj,hv2,hrep⟩
    ·subst hb
     have hend:=Zxd hil hK hgi hk1 hi2 hl2 hne hi3 (.inr ⟨rfl,hno⟩)
     refine Zat (fun _=>?_) (fun _=>hend)
     unfold rdr at hgi
     simp only [Zav,Zao hgi,Nat.zero_add,List.getElem?_cons_zero,List.getElem?_cons_succ,Zap,Bool.not_true,Zca]
     exact hend
    ·subst hb
     have hqa:(n:Int)=arN c:=by have:¬ (n:Int) < arN c:=fun hlt=>hgo ⟨rfl,hlt⟩; omega
     obtain ⟨t,htok,hthd,htps⟩:=Yuh (c:=c) hok (by omega)
     have hrT:Zhp (fun x=>Btw h.length h'.length x∧x≠i2) h' t [.int .u8 (c:Int),.slice (some (j,0)) n cp e]:=by
      rw [← hthd]
      refine Zhp.make (vs:=vs) (by rw [htps]; exact hps.symm) ⟨⟨hlj,Own.lt hj⟩,fun e=>hn2 e.symm⟩ hj hvs fun kk v x hv hx=>?_
      rw [htps] at hx
      obtain ⟨lo,hi,h1,h2,h3,h4,h5,h6⟩:=hrep kk v x hv hx
      exact h6.mono fun z hz=>⟨⟨by have:=hz.1; omega,by have:=hz.2; omega⟩,by have:=hz.1; omega⟩
     have hno:(∀ r,s.drop k1≠(if t.ps=[] then r else 41 :: r))→∀ t' r,¬ Zim (s.drop k) t' r:=by
      intro hx t' r ho
      rw [hdr] at ho
      have h1:=Ty.ok_ar ho.1
      have hhd:t'.hd=c:=by
       obtain ⟨r',hr⟩:=t'.txt_cons
       have:=ho.2; rw [hr] at this; simp at this; exact this.1.symm
      rw [hhd] at h1
      have:=ho.step hok (by omega)
      have h3:=this.2.2.2 (by omega)
      have hemp:t'.ps=[] ↔ t.ps=[]:=by
       rw [← List.length_eq_zero_iff,← List.length_eq_zero_iff,htps]; omega
      simp only [hemp] at h3
      exact hx _ h3
     have hyes:∀ r,s.drop k1=(if t.ps=[] then r else 41 :: r)→Zim (s.drop k) t r:=by
      intro r hr
      refine ⟨htok,?_⟩
      rw [Ytl,hthd,hdr,hr,htps]
     refine Zat (fun hpos=>?_) (fun hz=>?_)
     ·have hne0:t.ps≠[]:=by rw [htps]; intro e0; rw [e0] at hps; simp at hps; omega
      simp only [if_neg hne0] at hno hyes
      have hgi':=hgi
      unfold rdr at hgi'
      simp only [Zav,Zao hgi',Nat.zero_add,List.getElem?_cons_zero,List.getElem?_cons_succ,Zap,Bool.not_false,Zcn]
      refine (Yfh hgi hk1 hs).mono ?_
      have hK2:∀ b' k2,Zdu i h (h'.set i (rdr s k2 b')):=fun b' k2=>hK.trans (Zdu.set _ _ _)
      have hin2:i≠i2:=by omega
      have hin3:i≠i3:=by omega
      have badEnd:∀ k2,k2≤s.length→(∀ r,s.drop k1≠41 :: r)→Zbo.J12 (Zzf i s k h) i3 0 i2 0 (h'.set i (rdr s k2 true)):=fun k2 hk2 hx=>
       Zxd hil (hK2 _ _) (Zbz hgi) hk2 (by rw [Zbs hin2]; exact hi2) hl2 hne (by rw [Zbs hin3]; exact hi3) (.inr ⟨rfl,hno hx⟩)
      rintro v h2 (⟨d,hd,hlt,rfl,rfl⟩ | ⟨hnil,rfl,rfl⟩)
      ·simp only [Zar]
       have hg2:(h'.set i (rdr s (k1 + 1) false))[i]?=some (.cells Zdv [.str s,.int .i64 ((k1 + 1:Nat):Int),.bool false] false):=Zbz hgi
       refine Zgo (fun hne41=>?_) (fun he41=>?_)
       ·try simp only [Zav]
        rw [Zbd hg2 (by simp)]
        simp only [Zas]
        have:=badEnd (k1 + 1) (by omega) (fun r hr=>by rw [hd] at hr; simp at hr; omega)
        simpa [rdr,putRow,List.set_set] using this
       ·have hd41:d=41:=by omega
        try simp only [Zav]
        rw [Zao hg2]
        simp only [Nat.zero_add,List.getElem?_cons_zero,List.getElem?_cons_succ,Zap]
        rw [Zbd hg2 (by simp)]
        simp only [Zas]
        have:=Zxd (bad:=false) (k1:=k1 + 1) hil (hK2 false (k1 + 1)) (Zbz hgi) (by omega) (by rw [Zbs hin2]; exact hi2) hl2 hne (by rw [Zbs hin3]; exact hi3)
         (.inl ⟨rfl,t,hyes _ (by rw [hd,hd41]),Zhp.mono (fun z hz=>by simpa using hz) (hrT.agree fun z hz=>Zbs (by have:=hz.1.1; omega))⟩)
        simpa [rdr,putRow,List.set_set] using this
      ·simp only [Zar]
       have hg2:(h'.set i (rdr s k1 true))[i]?=some (.cells Zdv [.str s,.int .i64 (k1:Int),.bool true] false):=Zbz hgi
       simp only [show ((0:Int) == 41)=false from rfl,Bool.not_false,Zcn,Zav]
       rw [Zbd hg2 (by simp)]
       simp only [Zas]
       have:=badEnd k1 hk1 (fun r hr=>by rw [hnil] at hr; cases hr)
       simpa [rdr,putRow,List.set_set] using this
     ·have he0:t.ps=[]:=by rw [htps]; exact List.eq_nil_of_length_eq_zero (by omega)
      refine Zxd hil hK hgi hk1 hi2 hl2 hne hi3 (.inl ⟨rfl,t,hyes _ (by rw [if_pos he0]),hrT⟩)
  unfold Zbo.L5t
  have hgi':=hgi
  unfold rdr at hgi'
  refine Zat (fun hlt=>?_) (fun hge=>over fun hx=>hge hx.2)
  simp only [Zav,Zao hgi',Nat.zero_add,List.getElem?_cons_zero,List.getElem?_cons_succ,Zap]
  refine Zbq (fun hb=>?_) (fun hb=>over fun hx=>by rw [hb] at hx; cases hx.1)
  subst hb
  rcases hst with ⟨hb,_⟩ | ⟨_,hkk,rfl,hq,ps,vs,hps,hvs,hok,hdr,hj,hv2,hrep⟩
  ·cases hb
  have hin2:i≠i2:=by omega
  have hin3:i≠i3:=by omega
  have hn2':n < 2:=by omega
  have hstep:∀ t r,Zim (s.drop k) t r→∃ p s',s.drop k1=Zrw n :: s'∧∃ r',Zim s' p r':=by
   intro t r ho
   rw [hdr] at ho
   have h1:=Ty.ok_ar ho.1
   have hhd:t.hd=c:=by
    obtain ⟨r',hr⟩:=t.txt_cons
    have:=ho.2; rw [hr] at this; simp at this; exact this.1.symm
   rw [hhd] at h1
   have:=ho.step hok (by omega)
   rw [← hps]
   exact this.2.2.1 (by omega)
  apply Zbo.J7i
  refine ⟨⟨by omega,by simp; omega⟩,?_⟩
  have hmk:([40,44]:List Nat).getD ((n:Int).toNat) 0=Zrw n:=by
   rw [Int.toNat_natCast]
   rcases n with _ | _ | n
   ·rfl
   ·rfl
   ·omega
  rw [hmk]
  refine (Yfh hgi hk1 hs).mono ?_
  have badGo:∀ k2,k2≤s.length→(∀ t r,¬ Zim (s.drop k) t r)→Zbo.J8 (Zzf i s k h) R (some (i,0)) i3 0 (n:Int) (arN c) i2 0 (h'.set i (rdr s k2 true)):=by
   intro k2 hk2 hno
   apply Zbo.J8i
   have hg:=Zbz (x:=rdr s k2 true) hgi
   have hg':(h'.set i (rdr s k2 true))[i]?=some (.cells Zdv [.str s,.int .i64 (k2:Int),.bool true] false):=hg
   simp only [Zav]
   rw [Zao hg']
   simp only [Nat.zero_add,List.getElem?_cons_zero,List.getElem?_cons_succ,Zap,Bool.not_true,Zca]
   apply Zbo.J6i
   rw [IntWalk.i64_in _ (by omega)]
   refine hR (n + 1) _ _ (by omega) ⟨by omega,true,k2,n,cp,e,j,hK.trans (Zdu.set _ _ _),hg,hk2,by rw [Zbs hin2]; exact hi2,by rw [Zbs hin3]; exact hi3,hlj,hn2,hn3,by simp; omega,by simp; omega,.inl ⟨rfl,hno⟩⟩
  rintro v h2 (⟨d,hd,hlt1,rfl,rfl⟩ | ⟨hnil,rfl,rfl⟩)
  ·simp only [Zar]
   have hg3:=Zbz (x:=rdr s (k1 + 1) false) hgi
   have hg2:(h'.set i (rdr s (k1 + 1) false))[i]?=some (.cells Zdv [.str s,.int .i64 ((k1 + 1:Nat):Int),.bool false] false):=hg3
   refine Zgo (fun hne1=>?_) (fun he1=>?_)
   ·simp only [Zav]
    rw [Zbd hg2 (by simp)]
    simp only [Zas]
    have:=badGo (k1 + 1) (by omega) (fun t r ho=>by
     obtain ⟨p,s',hx,_⟩:=hstep t r ho
     rw [hd] at hx; simp at hx; omega)
    simpa [rdr,putRow,List.set_set] using this
   ·have hdm:d=Zrw n:=by omega
    simp only [Zav]
    rw [Zao hg2]
    simp only [Nat.zero_add,List.getElem?_cons_zero,List.getElem?_cons_succ,Zap]
    rw [Zbd hg2 (by simp)]
    simp only [Zas]
    have hsame:(h'.set i (rdr s (k1 + 1) false)).set i (Zcd.cells Zdv (putRow [Zau.str s,Zau.int .i64 ((k1 + 1:Nat):Int),Zau.bool false] 2 [Zau.bool false]) false)=h'.set i (rdr s (k1 + 1) false):=by
     simp [rdr,putRow,List.set_set]
    rw [hsame]
    apply Zbo.J8i
    simp only [Zav]
    rw [Zao hg2]
    simp only [Nat.zero_add,List.getElem?_cons_zero,List.getElem?_cons_succ,Zap,Bool.not_false,Zcn]
    have hi3a:(h'.set i (rdr s (k1 + 1) false))[i3]?=some (.cells Zai [.int .u8 (c:Int),.slice (some (j,0)) n cp e] false):=by rw [Zbs hin3]; exact hi3
    rw [Zao hi3a]
    simp only [List.getElem?_cons_zero,List.getElem?_cons_succ,Zae]
    refine (ih (k1 + 1) (by omega) (by omega) _ hg3).mono ?_
    rintro v h3 ⟨hK3,d3,a3,n3,c3,e3,k3,bad3,rfl,hg4,hk3,hres⟩

    have hl3:=hK3.le
    simp only [List.length_set] at hl3
    have hold3:∀ z,z < h'.length→z≠i→h3[z]?=h'[z]?:=fun z hz hzi=>by rw [hK3.eq z (by simpa using hz) hzi,Zbs (by omega)]
    have hi33:h3[i3]?=some (.cells Zai [.int .u8 (c:Int),.slice (some (j,0)) n cp e] false):=by rw [hold3 _ hl3' (by omega)]; exact hi3
    have hj3:h3[j]?=some (.cells Zai vs.flatten false):=by rw [hold3 _ (Own.lt hj) (by omega)]; exact hj
    simp only [Zdc,Zaf,Zar,Zae,Zan]
    refine ⟨by rw [Zao hi33]; rfl,?_⟩
    simp only [Zaw]
    refine ⟨by rw [Zao (Zgr hi33),Zao hi33],?_⟩
    refine (Vec.mk1 hj3).pushN Yka Yqb Ypn Ypg (by rw [Ypq hv2,hvs]) rfl (by omega) (by simp [Zau.leaf]) (by omega) (fun h4 hl4 hi4 hk4=>?_)
    simp only [Zae]
    have hold4:∀ z,z < h3.length→z≠j→h4[z]?=h3[z]?:=fun z hz hzj=>hk4 z hz fun w hw=>by cases hw; exact hzj
    have hi34:h4[i3]?=some (.cells Zai [.int .u8 (c:Int),.slice (some (j,0)) n cp e] false):=by rw [hold4 _ (by omega) hn3]; exact hi33
    rw [Zbd hi34 (by simp)]
    simp only [Zas]
    apply Zbo.J6i
    rw [IntWalk.i64_in _ (by omega)]
    have hiL:i < h'.length:=Own.lt hgi
    have hold5:∀ (x:Zcd) z,z≠i3→z≠j→z < h3.length→(h4.set i3 x)[z]?=h3[z]?:=fun x z h1 h2 h3=>by rw [Zbs (by omega),hold4 _ h3 h2]
    refine hR (n + 1) _ _ (by omega) ⟨by omega,bad3,k3,n + 1,n + 1,false,h3.length + 1,?_,?_,hk3,?_,?_,by omega,by omega,by omega,by simp; omega,by simp; omega,?_⟩
    ·refine ⟨by simp; have:=hK.le; omega,fun z hz hzi=>?_⟩
     have:=hK.le
     rw [hold5 _ _ (by omega) (by omega) (by omega),hold3 _ (by omega) hzi]; exact hK.eq z hz hzi
    ·rw [hold5 _ _ hin3 (by omega) (by omega)]; exact hg4
    ·rw [hold5 _ _ hne hn2 (by omega),hold3 _ hl2' (by omega)]; exact hi2
    ·rw [Zbz hi34]; simp [putRow]
    ·rcases hres with ⟨hb3,t,ho,hr⟩ | ⟨hb3,hno⟩
     ·refine .inr ⟨hb3,?_,rfl,by omega,ps ++ [t],vs ++ [[.int .u8 (d3:Int),.slice a3 n3 c3 e3]],by simp [hps],by simp [hvs],?_,?_,?_,?_,?_⟩
      ·have:=ho.2
       have hl:=congrArg List.length this
       simp at hl; have:=t.txt_pos; omega
      ·intro p hp
       rcases List.mem_append.1 hp with hp | hp
       ·exact hok p hp
       ·simp at hp; subst hp; exact ho.1
      ·rw [hdr,hd,hdm,ho.2]
       match ps,hps,hn2' with
       | [],hps,_=>subst hps; simp [Yce,Zrw]
       | [x],hps,_=>subst hps; simp [Yce,Zrw]
       | x :: y :: l,hps,_=>simp at hps; omega
      ·rw [Zbs (by omega),hi4,Ylk]
      ·intro v hv
       rcases List.mem_append.1 hv with hv | hv
       ·exact hv2 v hv
       ·simp at hv; subst hv; rfl
      ·intro kk v x hv hx
       by_cases hkn:kk < n
       ·rw [List.getElem?_append_left (by omega)] at hv hx
        obtain ⟨lo,hi,h1,h2,h2',h3',h4',h5⟩:=hrep kk v x hv hx
        refine ⟨lo,hi,h1,h2,h2',by simp; omega,fun hb=>by have:=hb.2; omega,h5.agree fun z hz=>?_⟩
        have:=hz.1; have:=hz.2
        rw [hold5 _ _ (by omega) (fun e=>h4' (e ▸ hz)) (by omega),hold3 _ (by omega) (by omega)]
       ·have hk':kk=n:=by
         have:=(List.getElem?_eq_some_iff.1 hv).1; simp at this; omega
        subst hk'
        rw [List.getElem?_append_right (by omega)] at hv hx
        simp [hps,hvs] at hv hx
        subst hv; subst hx
        refine ⟨h'.length,h3.length,by have:=hK.le; omega,by omega,by omega,by simp; omega,fun hb=>by have:=hb.2; omega,?_⟩
        have hr':Zhp (Btw h'.length h3.length) h3 t [.int .u8 (d3:Int),.slice a3 n3 c3 e3]:=by simpa using hr
        refine hr'.agree fun z hz=>?_
        have:=hz.1; have:=hz.2; have:=Own.lt hj
        rw [hold5 _ _ (by omega) (by omega) (by omega)]
     ·refine .inl ⟨hb3,fun t r ho=>?_⟩
      obtain ⟨p,s',hx,r',ho'⟩:=hstep t r ho
      rw [hd] at hx; simp at hx
      rw [← hx.2] at ho'
      exact hno _ _ ho'
  ·simp only [Zar]
   have hg2:(h'.set i (rdr s k1 true))[i]?=some (.cells Zdv [.str s,.int .i64 (k1:Int),.bool true] false):=Zbz hgi
   refine Zgo (fun _=>?_) (fun he1=>by exfalso; unfold Zrw at he1; split at he1 <;> omega)
   simp only [Zav]
   rw [Zbd hg2 (by simp)]
   simp only [Zas]
   have:=badGo k1 hk1 (fun t r ho=>by
    obtain ⟨p,s',hx,_⟩:=hstep t r ho
    rw [hnil] at hx; cases hx)
   simpa [rdr,putRow,List.set_set] using this
 ·rcases hcase with ⟨hb,hkk,hdr,ha⟩ | hb
  ·exact .inr ⟨hb,hkk,rfl,by simpa using ha,[],[],rfl,rfl,by simp,by simpa [Yce] using hdr,by simpa using hj0,by simp,by simp⟩
  ·exact .inl hb

theorem Yrx {s:List Nat} (hs:s.length≤9223372036854775807) (i:Nat):∀ (N k:Nat),s.length - k≤N→k≤s.length→∀ (h:Zaa),h[i]?=some (rdr s k false) →
  Zah pg Zez [.ptr (some (i,0))] h (Zzf i s k h):=by
 intro N
 induction N using Nat.strongRecOn with
 | _ N ihN=>
 intro k hN hk h hi
 have hil:=Own.lt hi
 have ih:∀ k',k < k'→k'≤s.length→∀ (h:Zaa),h[i]?=some (rdr s k' false)→Zah pg Zez [.ptr (some (i,0))] h (Zzf i s k' h):=
  fun k' h1 h2=>ihN (s.length - k') (by omega) k' (Nat.le_refl _) h2
 apply Zbo.call
 simp only [Zaw]
 refine (Yfh (Zgr hi) hk hs).mono ?_
 have main:∀ (c k1:Nat) (b1:Bool),k1≤s.length→((b1=false∧k < k1∧s.drop k=c :: s.drop k1) ∨ (b1=true∧arN c < 0∧s.drop k=[]))→∀ h2,h2=(h ++ [Zcd.cells Zai [.int .u8 0,.slice none 0 0 true] false]).set i (rdr s k1 b1) →
   Zbu (Zbb (h2 ++ [Zcd.cells Zai [] false] ++ [Zcd.cells Zai [.int .u8 0,.slice none 0 0 true] false]) (.ptr (some (List.length (h2 ++ [Zcd.cells Zai [] false]),0))) [.int .u8 (c:Int),.slice (some (List.length h2,0)) 0 0 true]) fun h_6=>Zdo .u8 (Zag h_6 (.ptr (some (List.length (h2 ++ [Zcd.cells Zai [] false]),0 + 0)))) fun x_7=>Zah pg Zlu [.int .u8 x_7] h_6 fun v_8 h_9=>
    Zdo .i64 (some v_8) fun x_10=>Zbm (some (i,0)) fun i_11 o_12=>Zbx (Zag h_9 (.ptr (some (i_11,o_12 + 2)))) fun b_13=>bcase b_13 (Zbm (some (i,0)) fun i_14 o_15=>Zbu (Zbb h_9 (.ptr (some (i_14,o_15 + 2))) [.bool true]) fun h_16=>Zbo.J4 (Zzf i s k h) (some (i,0)) (List.length h) 0 (List.length (h2 ++ [Zcd.cells Zai [] false])) 0 x_10 h_16) (Zbm (some (i,0)) fun i_17 o_18=>Zbu (Zbb h_9 (.ptr (some (i_17,o_18 + 2))) [.bool (decide ((x_10:Int) < 0))]) fun h_19=>Zbo.J4 (Zzf i s k h) (some (i,0)) (List.length h) 0 (List.length (h2 ++ [Zcd.cells Zai [] false])) 0 x_10 h_19):=by
  intro c k1 b1 hk1 hc h2 hh2
  have hl2:h2.length=h.length + 1:=by rw [hh2]; simp
  have hi2:h2[i]?=some (rdr s k1 b1):=by rw [hh2]; exact Zbz (Zgr hi)
  have hz2:h2[h.length]?=some (.cells Zai [.int .u8 0,.slice none 0 0 true] false):=by rw [hh2,Zbs (by omega)]; simp
  have hK2:Zdu i h h2:=by rw [hh2]; exact (Zdu.app i h _).trans (Zdu.set _ _ _)
  generalize hg:h2 ++ [Zcd.cells Zai [] false]=g
  have hgl:g.length=h.length + 2:=by rw [← hg]; simp [hl2]
  have hgi:g[i]?=some (rdr s k1 b1):=by rw [← hg]; exact Zgr hi2
  have hgz:g[h.length]?=some (.cells Zai [.int .u8 0,.slice none 0 0 true] false):=by rw [← hg]; exact Zgr hz2
  have hga:g[h2.length]?=some (.cells Zai [] false):=by rw [← hg]; simp
  have hKg:Zdu i h g:=by rw [← hg]; exact hK2.trans (Zdu.app i _ _)
  have hn:(g ++ [Zcd.cells Zai [.int .u8 0,.slice none 0 0 true] false])[g.length]?=some (Zcd.cells Zai [.int .u8 0,.slice none 0 0 true] false):=by simp
  rw [Zbd hn (by simp)]
  simp only [Zas]
  rw [Zao (Zbz hn)]
  simp only [putRow,List.take_zero,List.nil_append,List.cons_append,Nat.add_zero,List.getElem?_cons_zero,Zar]
  refine (Yjn c).mono ?_
  rintro v h9 ⟨rfl,rfl⟩
  have hold:∀ (x:Zcd) z w,g[z]?=some w→((g ++ [Zcd.cells Zai [.int .u8 0,.slice none 0 0 true] false]).set g.length x)[z]?=some w:=fun x z w hz=>by rw [Zbs (by have:=Own.lt hz; omega)]; exact Zgr hz
  simp only [Zar,Zav]
  have h9i:=hold (Zcd.cells Zai [.int .u8 (c:Int),.slice (some (List.length h2,0)) 0 0 true] false) i _ hgi
  have h9i':((g ++ [Zcd.cells Zai [.int .u8 0,.slice none 0 0 true] false]).set g.length (Zcd.cells Zai [.int .u8 (c:Int),.slice (some (List.length h2,0)) 0 0 true] false))[i]?=some (.cells Zdv [.str s,.int .i64 (k1:Int),.bool b1] false):=h9i
  rw [show (Zau.int IntKind.u8 (c:Int) :: Zau.slice (some (List.length h2,0)) 0 0 true :: List.drop (0 + [Zau.int IntKind.u8 (c:Int),Zau.slice (some (List.length h2,0)) 0 0 true].length) [Zau.int IntKind.u8 0,Zau.slice none 0 0 true])=[.int .u8 (c:Int),.slice (some (List.length h2,0)) 0 0 true] from rfl]
  have tail:∀ b2,((b2=false∧k < k1∧s.drop k=c :: s.drop k1∧0≤arN c) ∨ (b2=true∧∀ t r,¬ Zim (s.drop k) t r))→∀ g2,g2=(((g ++ [Zcd.cells Zai [.int .u8 0,.slice none 0 0 true] false]).set g.length (Zcd.cells Zai [.int .u8 (c:Int),.slice (some (List.length h2,0)) 0 0 true] false)).set i (rdr s k1 b2)) →
    Zbo.J4 (Zzf i s k h) (some (i,0)) (List.length h) 0 (List.length g) 0 (arN c) g2:=by
   intro b2 hb g2 hg2
   refine Yry hs hil ih (c:=c) (k1:=k1) (bad:=b2) (j0:=h2.length) ?_ ?_ hk1 (Nat.le_refl _) (by omega) (by omega) (by omega) (by omega) (by omega) ?_ ?_ ?_ hb
   ·rw [hg2]; exact ((hKg.trans (Zdu.app i _ _)).trans' (fun j hj=>Zbs (by omega))).trans (Zdu.set _ _ _)
   ·rw [hg2]; exact Zbz h9i
   ·rw [hg2,Zbs (by omega)]; exact hold _ _ _ hgz
   ·rw [hg2,Zbs (by omega)]; exact Zbz hn
   ·rw [hg2,Zbs (by omega)]; exact hold _ _ _ hga
  rw [Zao h9i']
  simp only [Nat.zero_add,List.getElem?_cons_zero,List.getElem?_cons_succ,Zap]
  rw [Zbd h9i' (by simp),Zbd h9i' (by simp)]
  simp only [Zas]
  rcases hc with ⟨rfl,h1,h2'⟩ | ⟨rfl,h1,h2'⟩
  ·simp only [Zca]
   by_cases ha:arN c < 0
   ·refine tail true (.inr ⟨rfl,?_⟩) _ (by simp [rdr,putRow,ha])
    intro t r ho
    have h3:=Ty.ok_ar ho.1
    have hhd:t.hd=c:=by
     obtain ⟨r',hr⟩:=t.txt_cons
     have:=ho.2; rw [hr,h2'] at this; simp at this; exact this.1.symm
    rw [hhd] at h3; omega
   ·exact tail false (.inl ⟨rfl,h1,h2',by omega⟩) _ (by simp [rdr,putRow,ha])
  ·simp only [Zcn]
   refine tail true (.inr ⟨rfl,?_⟩) _ (by simp [rdr,putRow])
   intro t r ho
   rw [h2'] at ho; exact Zim.nil ho
 rintro v h2 (⟨c,hd,hlt,rfl,hh⟩ | ⟨hnil,rfl,hh⟩)
 ·simp only [Zar]
  exact main c (k + 1) false (by omega) (.inl ⟨rfl,by omega,hd⟩) h2 hh
 ·simp only [Zar]
  exact main 0 k true hk (.inr ⟨rfl,by decide,hnil⟩) h2 hh

theorem Znx (s:List Nat) (hs:s.length≤9223372036854775807) (h:Zaa):Zah pg Zfs [.str s] h fun v h'=>Zbc h.length h h'∧∃ vs:List Zau,v=.tup [.agg vs,.bool (Zml s)] ∧
  (match Zhk s with | some t=>Zhp (Btw h.length h'.length) h' t vs | none=>vs=[.int .u8 0,.slice none 0 0 true]):=by
 apply Zqk.call
 simp only [Zaw]
 generalize hg:h ++ [Zcd.cells Zai [.int .u8 0,.slice none 0 0 true] false]=g
 have hgl:g.length=h.length + 1:=by rw [← hg]; simp
 have hgz:g[h.length]?=some (.cells Zai [.int .u8 0,.slice none 0 0 true] false):=by rw [← hg]; simp
 have hgs:Zbc h.length h g:=by rw [← hg]; exact Zbc.app (Nat.le_refl _) _
 have hr:(g ++ [Zcd.cells Zdv [.str s,.int .i64 0,.bool false] false])[g.length]?=some (rdr s 0 false):=by simp [rdr]
 refine (Yrx hs g.length _ 0 (Nat.le_refl _) (Nat.zero_le _) _ hr).mono ?_
 rintro v h3 ⟨hK,d,a,n,c,e,k',bad,rfl,hi,hk',hres⟩
 simp only [Zdc,Zaf,Zar,Zae,Zan,Zaw]
 have hl3:=hK.le
 simp at hl3
 have hz3:h3[h.length]?=some (.cells Zai [.int .u8 0,.slice none 0 0 true] false):=by rw [hK.eq _ (by simp; omega) (by omega)]; exact Zgr hgz
 have hs3:Zbc h.length h h3:=⟨by omega,fun j hj=>by rw [hK.eq _ (by simp; omega) (by omega),Yci (by omega)]; exact hgs.eq j hj⟩
 have hn:(h3 ++ [Zcd.cells Zai [.int .u8 0,.slice none 0 0 true] false])[h3.length]?=some (.cells Zai [.int .u8 0,.slice none 0 0 true] false):=by simp
 rw [Zbd hn (by simp)]
 simp only [Zas]
 generalize h5e:(h3 ++ [Zcd.cells Zai [.int .u8 0,.slice none 0 0 true] false]).set h3.length (.cells Zai (putRow [.int .u8 0,.slice none 0 0 true] 0 [.int .u8 (d:Int),.slice a n c e]) false)=h5
 have h5o:∀ z,z < h3.length→h5[z]?=h3[z]?:=fun z hz=>by rw [← h5e,Zbs (by omega),Yci hz]
 have h5l:h5.length=h3.length + 1:=by rw [← h5e]; simp
 have h5n:h5[h3.length]?=some (.cells Zai [.int .u8 (d:Int),.slice a n c e] false):=by rw [← h5e,Zbz hn]; simp [putRow]
 have h5i:h5[g.length]?=some (.cells Zdv [.str s,.int .i64 (k':Int),.bool bad] false):=by rw [h5o _ (Own.lt hi)]; exact hi
 have h5z:h5[h.length]?=some (.cells Zai [.int .u8 0,.slice none 0 0 true] false):=by rw [h5o _ (Own.lt hz3)]; exact hz3
 have h5s:Zbc h.length h h5:=⟨by omega,fun j hj=>by rw [h5o _ (by omega)]; exact hs3.eq j hj⟩
 rw [Zao h5i]
 simp only [Nat.zero_add,List.getElem?_cons_zero,List.getElem?_cons_succ,Zap]
 have fail:Zhk s=none→Zbu (Zbb h5 (.ptr (some (List.length h,0))) [.int .u8 0,.slice none 0 0 true]) fun h_17=>Zco (Zbj h_17 (.ptr (some (List.length h,0))) 2) fun cs_18=>Zaj cs_18 fun c_19 r_20=>Zdo .u8 (some c_19) fun x_21=>Zaj r_20 fun c_22 r_23=>xSl (some c_22) fun a_24 n_25 c_26 e_27=>Zbv r_23 (Zbc h.length h h_17∧∃ vs:List Zau,(Zau.tup [.agg [.int .u8 x_21,.slice a_24 n_25 c_26 e_27],.bool false])=.tup [.agg vs,.bool (Zml s)] ∧
  (match Zhk s with | some t=>Zhp (Btw h.length h_17.length) h_17 t vs | none=>vs=[.int .u8 0,.slice none 0 0 true])):=by
  intro hno
  rw [Zbd h5z (by simp)]
  simp only [Zas]
  rw [Zef (Zbz h5z) (by simp [putRow])]
  simp only [putRow,List.take_zero,List.nil_append,List.length_cons,List.length_nil,List.cons_append,List.drop_succ_cons,List.drop_zero,List.drop_nil,List.append_nil,List.take_succ_cons,Zaq,Zaf,Zar,Zae,Zan]
  refine ⟨⟨by simp; omega,fun j hj=>by rw [Zbs (by omega)]; exact h5s.eq j hj⟩,_,by simp only [Zml,hno]; rfl,by rw [hno]⟩
 rw [List.drop_zero] at hres
 rcases hres with ⟨rfl,t,ho,hrep⟩ | ⟨rfl,hno⟩
 ·simp only [Zca,Zao h5i,Nat.zero_add,List.getElem?_cons_zero,List.getElem?_cons_succ,Zar]
  refine Zgo (fun hne=>fail ?_) (fun he=>?_)
  ·unfold Zhk
   split
   ·exact Zsx.2 fun t' ht' e'=>by
     have:=(ho.unique ⟨ht',show s=t'.txt ++ [] by simpa using e'⟩).2
     have:=congrArg List.length this
     simp at this; omega
   ·rfl
  ·have hk:k'=s.length:=by omega
   subst hk
   rw [List.drop_length] at ho
   have hs':s=t.txt:=by simpa using ho.2
   refine Zat (fun hl=>fail ?_) (fun hl=>?_)
   ·unfold Zhk; rw [if_neg (by omega)]
   ·have hof:Zhk s=some t:=Zdt.2 ⟨ho.1,hs',by omega⟩
    apply Zqk.J5i
    rw [Zef h5n (by simp)]
    simp only [List.drop_zero,List.take_succ_cons,List.take_zero,Zaq,Zaf,Zar,Zae,Zan]
    rw [Zbd h5z (by simp)]
    simp only [Zas]
    rw [Zef (Zbz h5z) (by simp [putRow])]
    simp only [putRow,List.take_zero,List.nil_append,List.length_cons,List.length_nil,List.cons_append,List.drop_succ_cons,List.drop_zero,List.drop_nil,List.append_nil,List.take_succ_cons,Zaq,Zaf,Zar,Zae,Zan]
    refine ⟨⟨by simp; omega,fun j hj=>by rw [Zbs (by omega)]; exact h5s.eq j hj⟩,_,by simp only [Zml,hof]; rfl,?_⟩
    rw [hof]
    refine Zhp.mono (S:=Btw (g ++ [Zcd.cells Zdv [.str s,.int .i64 0,.bool false] false]).length h3.length) (fun z hz=>⟨by have:=hz.1; simp at this; omega,by have:=hz.2; simp; omega⟩) (hrep.agree fun z hz=>?_)
    have h1:=hz.1; have h2:=hz.2
    simp at h1
    rw [Zbs (by omega),h5o _ h2]
 ·simp only [Zcn]
  refine fail ?_
  unfold Zhk
  split
  ·exact Zsx.2 fun t' ht' e'=>hno t' [] ⟨ht',by simpa using e'⟩
  ·rfl
theorem Zio (s:List Nat) (hs:s.length≤9223372036854775807) (h:Zaa):Zah pg Zfc [.str s] h fun v h'=>v=.bool (Zml s)∧Zbc h.length h h':=by
 apply Zrm.call
 refine (Znx s hs h).mono ?_
 rintro v h1 ⟨hS,vs,rfl,hm⟩
 have hvs:∃ (d:Int) (a:Pt) (n c:Nat) (e:Bool),vs=[.int .u8 d,.slice a n c e]:=by
  split at hm
  ·obtain ⟨a,c,e,rfl⟩:=hm.shape; exact ⟨_,_,_,_,_,rfl⟩
  ·exact ⟨_,_,_,_,_,hm⟩
 obtain ⟨d,a,n,c,e,rfl⟩:=hvs
 simp only [Zct,Zaf,Zdc,Zar,Zae,Zan,Zap,Zaw]
 have hn:(h1 ++ [Zcd.cells Zai [.int .u8 0,.slice none 0 0 true] false])[h1.length]?=some (.cells Zai [.int .u8 0,.slice none 0 0 true] false):=by simp
 rw [Zbd hn (by simp)]
 simp only [Zas]
 exact ⟨by trivial,hS.trans ((Zbc.app hS.le _).trans (Zbc.set hS.le _))⟩
end Go.Sim

set_option linter.unusedVariables false
namespace Go.Sim
open Go Go.RowKit

theorem c9:pg.cellsOf Zbe=1:=by kernel_rfl
theorem b9:pg.bytesOf Zbe=16:=by kernel_rfl

def Yva (k:Nat) (acc:List Nat):List Nat:=if h:k=0 then acc else Yva (k / 10) ((48 + k % 10) :: acc)
 termination_by k
 decreasing_by omega
def Ytw (k:Int):List Nat:=if k≤0 then [109,48] else 109 :: Yva k.toNat []
def Ymk (k:Int) (n:Nat):List (List Nat):=(List.range n).map fun (j:Nat)=>Ytw (k + j)
@[simp] theorem Yrb (k:Int) (n:Nat):(Ymk k n).length=n:=by simp [Ymk]
theorem Ysm (k:Int) (n:Nat):Ymk k (n + 1)=Ymk k n ++ [Ytw (k + n)]:=by simp [Ymk,List.range_succ]

end Go.Sim

set_option linter.unusedVariables false
namespace Go.Sim
open Go Go.RowKit

def sp (l:List (List Nat)):List Nat:=[32].intercalate l
end Go.Sim

set_option linter.unusedVariables false
set_option linter.unusedSimpArgs false
set_option maxRecDepth 20000
namespace Go.Sim
open Go Go.RowKit

theorem Yab:pg.underlying Zkd=some (.slice Zbe):=by kernel_rfl
theorem Yid:pg.cellsOf Zbe=1:=by kernel_rfl
theorem Yig:pg.okElem Zbe=true:=by kernel_rfl
theorem Yhx:pg.bytesOf Zbe≤127:=Nat.le_of_ble_eq_true (by kernel_rfl)
end Go.Sim

set_option linter.unusedVariables false
set_option linter.unusedSimpArgs false
set_option maxRecDepth 20000
namespace Go.Sim
open Go Go.RowKit

theorem Yba {s:List Nat} {k:Nat} {z:Int} (hz:z=k) (hk:k≤s.length):sub s z (s.length:Int)=s.drop k:=by subst hz; simp only [sub,Int.toNat_natCast,List.take_length]
theorem Ybn {s:List Nat} {j k:Nat} {x y:Int} (hx:x=j) (hy:y=k):sub s x y=(s.take k).drop j:=by subst hx; subst hy; simp [sub]
theorem Ydn {h:Zaa} {s:List Nat} {c:Nat} (hs:s.length≤1048576):Zah pg Zgx [.str s,.int .u8 (c:Int)] h fun v h'=>Zbc h.length h h' ∧
  ∃ j cp e,v=.slice (some (j,0)) (Zcp c s).length cp e∧h.length≤j∧h'[j]?=some (.cells Zbe (Zdn eS (Zcp c s)) false):=by
 apply Zda.call
 simp only [Zaw]
 refine Zda.L4ind _ _ _ (J:=fun (g:Nat) a5 n5 c5 e5 x6 x7 h'=>x7=(g:Int)∧g≤s.length + 1∧Zbc h.length h h'∧∃ (done:List (List Nat)) (from_:Nat),n5=done.length∧x6=(from_:Int)∧done.length≤g∧Vec Zbe h' a5 n5 c5 (strs done)∧(∀ i,a5=some (i,0)→h.length≤i) ∧
   (g≤s.length→from_≤g∧c ∉ (s.take g).drop from_∧Zcp c s=done ++ Zcp c (s.drop from_))∧(g=s.length + 1→Zcp c s=done)) (fun g=>s.length + 1 - g) ?_ 0 _ _ _ _ _ _ _
  ⟨rfl,by omega,Zbc.app (Nat.le_refl _) _,[],0,rfl,rfl,by simp,Vec.mk1 (by simp),by simp,fun _=>⟨by omega,by simp,by simp⟩,by omega⟩
 rintro g a5 n5 c5 e5 x6 x7 h' ⟨rfl,hg,hS,done,from_,rfl,rfl,hdl,hv,ha,hin,hout⟩ R hR
 unfold Zda.L4t
 refine Zat (fun hle=>?_) (fun hgt=>?_)
 ·obtain ⟨hf,hnc,hsp⟩:=hin (by omega)
  have push:∀ p,(∀ a n e h4,Zbc h.length h h4→n=done.length + 1→Vec Zbe h4 a n n (strs (done ++ [p]))→(∀ i,a=some (i,0)→h.length≤i)→Zda.J5 (fun v h'=>Zbc h.length h h'∧∃ j cp e,v=.slice (some (j,0)) (Zcp c s).length cp e∧h.length≤j∧h'[j]?=some (.cells Zbe (Zdn eS (Zcp c s)) false)) R (g:Int) s (c:Int) a n n e (IntKind.wrap .i64 ((g:Int) + 1)) h4) →
    Zcz pg Zkd (h' ++ [.cells Zbe [.str p] false]) (.slice a5 done.length c5 e5) (.slice (some (List.length h',0)) 1 1 true) fun v_2 h_3=>xSl (some v_2) fun a_4 n_5 c_6 e_7=>Zda.J5 (fun v h'=>Zbc h.length h h'∧∃ j cp e,v=.slice (some (j,0)) (Zcp c s).length cp e∧h.length≤j∧h'[j]?=some (.cells Zbe (Zdn eS (Zcp c s)) false)) R (g:Int) s (c:Int) a_4 n_5 c_6 e_7 (IntKind.wrap .i64 ((g:Int) + 1)) h_3:=by
   intro p K
   refine hv.push Yab Yid Yig Yhx (by simp) rfl (by omega) (fun h4 hl4 hi4 hk4=>?_)
   simp only [Zae]
   have hle:=hS.le
   refine K _ _ _ _ ⟨by omega,fun j hj=>?_⟩ rfl (Vec.mk1 (by simpa [strs] using hi4)) (fun i hi=>by cases hi; omega)
   rw [hk4 j (by omega) fun i hi=>by have:=ha i hi; omega]; exact hS.eq j hj
  refine Zcx (fun he=>?_) (fun hne=>?_)
  ·have hgs:g=s.length:=by omega
   subst hgs
   rw [Ybn (j:=from_) (k:=s.length) rfl rfl,List.take_length]
   rw [List.take_length] at hnc
   refine ⟨⟨by omega,by omega,by omega⟩,push _ fun a n e h4 hS4 hn4 hv4 ha4=>Zda.J5i _ _ _ _ _ _ _ _ _ _ _ ?_⟩
   rw [Zbl (by omega)]
   subst hn4
   exact hR (s.length + 1) _ _ _ _ _ _ _ (by omega) ⟨rfl,by omega,hS4,done ++ [s.drop from_],s.length + 1,by simp,rfl,by simp; omega,by simpa using hv4,ha4,by omega,fun _=>by rw [hsp,Ztp hnc]⟩
  ·have hlt:g < s.length:=by omega
   refine ⟨⟨by omega,by omega⟩,?_⟩
   rw [Int.toNat_natCast,Zwx hlt]
   have htk:(s.take (g + 1)).drop from_=(s.take g).drop from_ ++ [s[g]]:=by
    rw [List.take_succ_eq_append_getElem hlt,List.drop_append_of_le_length (by simp; omega)]
   have hdr:s.drop from_=(s.take g).drop from_ ++ s[g] :: s.drop (g + 1):=by
    conv=>lhs; rw [← List.take_append_drop g s]
    rw [List.drop_append_of_le_length (by simp; omega),List.drop_eq_getElem_cons hlt]
   refine Zcx (fun he=>?_) (fun hne2=>?_)
   ·have hec:s[g]=c:=by omega
    rw [Ybn (j:=from_) (k:=g) rfl rfl]
    refine ⟨⟨by omega,by omega,by omega⟩,push _ fun a n e h4 hS4 hn4 hv4 ha4=>Zda.J5i _ _ _ _ _ _ _ _ _ _ _ ?_⟩
    rw [Zbl (by omega)]
    subst hn4
    refine hR (g + 1) _ _ _ _ _ _ _ (by omega) ⟨rfl,by omega,hS4,done ++ [(s.take g).drop from_],g + 1,by simp,rfl,by simp; omega,by simpa using hv4,ha4,fun _=>⟨by omega,by simp,?_⟩,by omega⟩
    rw [hsp,hdr,hec,Zvp hnc]; simp
   ·apply Zda.J5i
    rw [Zbl (by omega)]
    refine hR (g + 1) _ _ _ _ _ _ _ (by omega) ⟨rfl,by omega,hS,done,from_,rfl,rfl,by omega,hv,ha,fun _=>⟨by omega,?_,hsp⟩,by omega⟩
    rw [htk]
    simp only [List.mem_append,List.mem_singleton,not_or]
    exact ⟨hnc,fun e=>hne2 (by rw [e])⟩
 ·have:g=s.length + 1:=by omega
  have hd:=hout this
  apply Zda.A4x0i
  rw [hd]
  rcases hv with ⟨_,_,_,h0⟩ | ⟨i,rfl,hi⟩
  ·exact absurd (by rw [hd]; exact List.map_eq_nil_iff.1 h0) (Zpw c s)
  ·exact ⟨hS,_,_,_,rfl,ha i rfl,by rw [Ykn]; exact hi⟩
end Go.Sim

set_option linter.unusedVariables false
namespace Go.Sim
open Go Go.RowKit

def prs (l:List (List Nat × List Nat)):List Zau:=l.flatMap fun p=>[.str p.1,.str p.2]
@[simp] theorem Yun:prs []=[]:=rfl
@[simp] theorem Yub (p:List Nat × List Nat) (l:List (List Nat × List Nat)):prs (p :: l)=.str p.1 :: .str p.2 :: prs l:=rfl
@[simp] theorem Yso (a b:List (List Nat × List Nat)):prs (a ++ b)=prs a ++ prs b:=by simp [prs]
theorem Ysn (l:List (List Nat × List Nat)):(prs l).length=l.length * 2:=by
 induction l with
 | nil=>rfl
 | cons p l ih=>simp [ih]; omega
def Ynx (l:List (List Nat × List Nat)):Nat:=(l.map fun p=>p.1.length + p.2.length).sum
theorem Yna {l:List (List Nat × List Nat)} {g:Nat} (h:g < l.length):Ynx (l.take (g + 1))=Ynx (l.take g) + (l[g].1.length + l[g].2.length):=by
 unfold Ynx; rw [List.take_succ_eq_append_getElem h,List.map_append,List.sum_append]; simp
theorem Ydq (l:List (List Nat × List Nat)) (g:Nat):Ynx (l.take g)≤Ynx l:=by
 conv=>rhs; rw [← List.take_append_drop g l]
 unfold Ynx; rw [List.map_append,List.sum_append]; omega
theorem Yif {l:List (List Nat × List Nat)} {g:Nat} (h:g < l.length):l[g].1.length + l[g].2.length≤Ynx l:=by
 have:=Yna h; have:=Ydq l (g + 1); omega
end Go.Sim

set_option linter.unusedVariables false
namespace Go.Sim
open Go Go.RowKit
def need (p:List Nat × List Nat):List Nat:=p.1 ++ [32] ++ p.2
end Go.Sim

set_option linter.unusedSimpArgs false
namespace Go.Sim

def Zed:List Nat:=[88,89,90,120,121,122]
def Zlc (s:List Nat):List Nat:=Zed.filter fun v=>decide (v∈s)
theorem Zno (c:Nat):c∈Zed ↔ Zcr c=true:=by simp [Zed,Zcr]; omega
theorem Zkk {s:List Nat} (h:Zml s=true):∃ t,Zhk s=some t:=Option.isSome_iff_exists.1 h
theorem Ybs {s:List Nat} {t:Ty} (h:Zhk s=some t):Zml s=true:=by simp [Zml,h]
end Go.Sim

set_option linter.unusedSimpArgs false
namespace Go.Sim

abbrev Nd:=List Nat × List Nat
abbrev Ins:=Nd × List Nd
structure Wd where
 cs:List Nd
 is:List Ins

def Ztz (s:List Nat):Bool:=match s with | [c]=>decide (65≤c∧c≤84) | _=>false
def Zfz (cs:List Nd) (c:List Nat):Bool:=cs.any fun x=>decide (x.1=c)
def Zzu (cs:List Nd) (s:List Nat) (k:Nat):Bool:=Zfz cs [s.getD k 0] && (k == 0 || decide (s.getD (k - 1) 0 < s.getD k 0))
def Yds (cs:List Nd) (s:List Nat):Bool:=(List.range s.length).all (Zzu cs s)
def Zzr (cs:List Nd) (i:Nat):Bool:=Ztz (cs.getD i ([],[])).1 && (i == 0 || Zeo (cs.getD (i - 1) ([],[])).1 (cs.getD i ([],[])).1) && Yds (cs.take i) (cs.getD i ([],[])).2
def Zkg (cs:List Nd):Bool:=(List.range cs.length).all (Zzr cs) && decide (1≤cs.length∧cs.length≤4)
def Zkr (s:List Nat):Bool:=match s with | [c]=>Zcr c | _=>false
noncomputable def Zjl (cs:List Nd) (t:List Nat) (n:Nd):Bool:=Zfz cs n.1 && Zml n.2 && decide (n.2.length≤20) && (Zlc n.2).all fun v=>decide (v∈t)
noncomputable def Zmv (cs:List Nd) (i:Ins):Bool:=Zkg cs && Zfz cs i.1.1 && Zml i.1.2 && decide (i.1.2.length≤20) && !Zkr i.1.2 && decide (i.2.length≤3) && i.2.all (Zjl cs i.1.2)
noncomputable def Zeg (w:Wd):Bool:=Zkg w.cs && decide (w.is.length≤10) && w.is.all (Zmv w.cs)
noncomputable def Zhz (w:Wd) (n:Nd):Bool:=Zfz w.cs n.1 && Zml n.2
theorem Zhe {f:Nat→Bool} {g:Nat} (h:(List.range g).all f=true) (k:f g=true):(List.range (g + 1)).all f=true:=by
 rw [List.range_succ,List.all_append,h]; simp [k]
theorem Zkt {f:Nat→Bool} {g n:Nat} (h:g < n) (k:f g=false):(List.range n).all f=false:=by
 rw [List.all_eq_false]; exact ⟨g,List.mem_range.2 h,by simp [k]⟩
theorem Zfr {α:Type} {f:α→Bool} {l:List α} {g:Nat} (hg:g < l.length) (h:(l.take g).all f=true) (k:f l[g]=true):(l.take (g + 1)).all f=true:=by
 rw [List.take_succ_eq_append_getElem hg,List.all_append,h]; simp [k]
theorem Zqx {α:Type} {f:α→Bool} {l:List α} {g:Nat} (hg:g < l.length) (k:f l[g]=false):l.all f=false:=by
 rw [List.all_eq_false]; exact ⟨_,List.getElem_mem hg,by simp [k]⟩
theorem Zfd {α:Type} {l:List α} {g:Nat} {d:α} (h:g < l.length):l.getD g d=l[g]:=by simp [List.getD,h]
theorem Zzd {cs:List Nd} {c:List Nat} {g:Nat} (hg:g < cs.length):Zfz (cs.take (g + 1)) c=(Zfz (cs.take g) c || decide (cs[g].1=c)):=by
 unfold Zfz; rw [List.take_succ_eq_append_getElem hg,List.any_append]; simp
def Ygn (cs:List Nd) (c:List Nat):Int:=if Zfz cs c then (cs.findIdx fun x=>decide (x.1=c):Nat) else -1
theorem Zzl (cs:List Nd) (c:List Nat):decide (Ygn cs c < 0)=!Zfz cs c:=by
 unfold Ygn; cases h:Zfz cs c <;> simp
theorem Ytv {t:List Nat} (h:Zml t=true):Zkr t=Zcr (t.headD 0):=by
 obtain ⟨u,hu,rfl,_⟩:=Zsv.1 h
 cases u with
 | k c=>rfl
 | u c a=>
  have h1:=hu
  simp only [Ty.ok,Bool.and_eq_true,Bool.or_eq_true,beq_iff_eq] at h1
  rcases h1.1 with rfl | rfl <;> rfl
 | w c a b=>
  have h1:=hu
  simp only [Ty.ok,Bool.and_eq_true,beq_iff_eq] at h1
  rcases h1.1.1 with rfl; rfl
end Go.Sim

set_option linter.unusedVariables false
set_option linter.unusedSimpArgs false
set_option maxRecDepth 20000
namespace Go.Sim
open Go Go.RowKit

theorem Zvr {h:Zaa} {x a b:Int}:Zah pg Zig [.int .i64 x,.int .i64 a,.int .i64 b] h fun v h'=>v=.bool (decide (a≤x∧x≤b))∧h'=h:=by
 apply Zzh.call
 refine Zat (fun h1=>?_) (fun h1=>?_)
 ·have:a≤x:=h1
  simp [this]
 ·have:¬ a≤x:=h1
  simp [this]
theorem Yjp {h:Zaa} (s:List Nat):Zah pg Zpf [.str s] h fun v h'=>v=.bool (Ztz s)∧h'=h:=by
 apply Zta.call
 match s with
 | []=>simp [Ztz]
 | [c]=>
  simp only [List.length_cons,List.length_nil,show ((0 + 1:Nat):Int)=1 from rfl,beq_self_eq_true,Zcn]
  have e1:Zeo [c] [65]=decide (c < 65):=by simp [Zeo]
  have e2:Zeo [c] [84]=decide (c < 84):=by simp [Zeo]
  rw [e1,e2]
  refine Zpi (fun h1=>?_) (fun h1=>?_)
  ·refine ⟨?_,by trivial⟩
   congr 1
   simp [Ztz]
   rw [Bool.eq_iff_iff]; simp; omega
  ·refine ⟨?_,by trivial⟩
   simp [Ztz]; omega
 | c :: d :: r=>
  refine Zcx (fun h1=>?_) (fun h1=>⟨rfl,rfl⟩)
  simp at h1; omega
theorem Zwk {h:Zaa} (s:List Nat) (hb:∀ b∈s,b < 256):Zah pg Zjo [.str s] h fun v h'=>v=.bool (Ztz s)∧h'=h:=by
 apply Zre.call
 match s,hb with
 | [],_=>simp [Ztz]
 | [c],hb=>
  have hc:=hb c (by simp)
  simp only [List.length_cons,List.length_nil,show ((0 + 1:Nat):Int)=1 from rfl,beq_self_eq_true,Zcn]
  refine ⟨⟨by omega,by simp⟩,?_⟩
  simp only [Int.toNat_zero,List.getD_cons_zero]
  rw [IntWalk.i64_in _ (by omega)]
  refine Zvr.mono ?_
  rintro v h' ⟨rfl,rfl⟩
  simp only [Zap]
  refine ⟨?_,by trivial⟩
  congr 1
  simp [Ztz]; rw [Bool.eq_iff_iff]; simp; omega
 | c :: d :: r,_=>
  refine Zcx (fun h1=>?_) (fun h1=>⟨rfl,rfl⟩)
  simp at h1; omega
def Yev (s:List Nat) (h:Zaa) (v:Zau) (h':Zaa):Prop:=Zbc h.length h h'∧((∃ p,Zmd s=some p∧v=.tup [.agg [.str p.1,.str p.2],.bool true]) ∨ (Zmd s=none∧v=.tup [.agg [.str [],.str []],.bool false]))
theorem Yjf {c:Nat} {t:List Nat} (h1:65≤c∧c≤84) (h2:Zml t=true):Zmd (c :: 32 :: t)=some ([c],t):=by unfold Zmd; simp [h1,h2]
theorem Zpr {h h':Zaa} {s:List Nat} {x y:Zau} (hs:Zbc h.length h h') (hi:h'[h.length]?=some (.cells Zad [x,y] false)) (hn:Zmd s=none) :
  Zbu (Zbb h' (.ptr (some (List.length h,0))) [.str [],.str []]) fun h_1=>Zco (Zbj h_1 (.ptr (some (List.length h,0))) 2) fun cs_2=>Zaj cs_2 fun c_3 r_4=>Zbg (some c_3) fun s_5=>Zaj r_4 fun c_6 r_7=>Zbg (some c_6) fun s_8=>Zbv r_7 (Yev s h (.tup [.agg [.str s_5,.str s_8],.bool false]) h_1):=by
 rw [Zbd hi (by simp)]
 simp only [Zas]
 rw [Zef (Zbz hi) (by simp [putRow])]
 simp only [putRow,List.take_zero,List.nil_append,List.length_cons,List.length_nil,List.cons_append,List.drop_succ_cons,List.drop_zero,List.drop_nil,List.append_nil,List.take_succ_cons,Zaq,Zaf,Zal,Zan]
 exact ⟨hs.trans (Zbc.set (Nat.le_refl _) _),.inr ⟨hn,rfl⟩⟩
theorem Ykb {h h':Zaa} {s c t:List Nat} {x y:Zau} (hs:Zbc h.length h h') (hi:h'[h.length]?=some (.cells Zad [x,y] false)) (hn:Zmd s=some (c,t)) :
  Zbu (Zbb h' (.ptr (some (List.length h,0))) [.str c,.str t]) fun h_1=>Zco (Zbj h_1 (.ptr (some (List.length h,0))) 2) fun cs_2=>Zaj cs_2 fun c_3 r_4=>Zbg (some c_3) fun s_5=>Zaj r_4 fun c_6 r_7=>Zbg (some c_6) fun s_8=>Zbv r_7 (Yev s h (.tup [.agg [.str s_5,.str s_8],.bool true]) h_1):=by
 rw [Zbd hi (by simp)]
 simp only [Zas]
 rw [Zef (Zbz hi) (by simp [putRow])]
 simp only [putRow,List.take_zero,List.nil_append,List.length_cons,List.length_nil,List.cons_append,List.drop_succ_cons,List.drop_zero,List.drop_nil,List.append_nil,List.take_succ_cons,Zaq,Zaf,Zal,Zan]
 exact ⟨hs.trans (Zbc.set (Nat.le_refl _) _),.inl ⟨_,hn,rfl⟩⟩
theorem Zug {h:Zaa} (s:List Nat) (hs:s.length≤1048576) (hb:∀ b∈s,b < 256):Zah pg Zjt [.str s] h (Yev s h):=by
 apply Zmp.call
 simp only [Zaw]
 have h0i:(h ++ [Zcd.cells Zad [.str [],.str []] false])[h.length]?=some (.cells Zad [.str [],.str []] false):=by simp
 have s0:Zbc h.length h (h ++ [Zcd.cells Zad [.str [],.str []] false]):=Zbc.app (Nat.le_refl _) _
 match s,hs,hb with
 | [],_,_=>exact Zat (fun _=>Zpr s0 h0i rfl) (fun h1=>by simp at h1)
 | [a],_,_=>exact Zat (fun _=>Zpr s0 h0i rfl) (fun h1=>by simp at h1)
 | [a,b],_,_=>
  refine Zat (fun _=>Zpr s0 h0i ?_) (fun h1=>by simp at h1)
  have:Zml []=false:=by
   cases ht:Zml [] with
   | false=>rfl
   | true=>exact absurd rfl (Ynn ht)
  simp [Zmd,this]
 | a :: b :: c :: t,hs,hb=>
  refine Zat (fun h1=>by simp at h1; omega) (fun h1=>?_)
  refine ⟨⟨by omega,by simp; omega⟩,?_⟩
  simp only [show Int.toNat 1=1 from rfl,List.getD_cons_succ,List.getD_cons_zero]
  refine Zgo (fun hne=>Zpr s0 h0i ?_) (fun he=>?_)
  ·have:¬ b=32:=by omega
   simp [Zmd,this]
  ·have hb32:b=32:=by omega
   subst hb32
   refine ⟨⟨by omega,by omega,by simp; omega⟩,?_⟩
   rw [Yeb]
   refine (Zwk [a] (fun x hx=>hb x (by simp at hx; simp [hx]))).mono ?_
   rintro v h2 ⟨rfl,rfl⟩
   simp only [Zap]
   refine Zbq (fun hc=>Zpr s0 h0i ?_) (fun hc=>?_)
   ·have:¬ (65≤a∧a≤84):=by simp [Ztz] at hc; omega
    simp [Zmd,this]
   ·have ha:65≤a∧a≤84:=by simpa [Ztz] using hc
    refine ⟨⟨by omega,by simp; omega,by omega⟩,?_⟩
    rw [Yba (s:=a :: 32 :: c :: t) (z:=2) (k:=2) rfl (by simp)]
    simp only [List.drop_succ_cons,List.drop_zero]
    refine (Zio (c :: t) (by simp at hs ⊢; omega) _).mono ?_
    rintro v h3 ⟨rfl,s3⟩
    simp only [Zap]
    have h3i:h3[h.length]?=some (.cells Zad [.str [],.str []] false):=by rw [s3.eq _ (by simp)]; exact h0i
    have s03:Zbc h.length h h3:=s0.trans (s3.mono (by simp))
    refine Zbq (fun hv=>Zpr s03 h3i ?_) (fun hv=>?_)
    ·simp [Zmd,hv]
    ·apply Zmp.J3i
     rw [Yeb,Yba (s:=a :: 32 :: c :: t) (z:=2) (k:=2) rfl (by simp)]
     simp only [List.drop_succ_cons,List.drop_zero]
     exact ⟨⟨by omega,by omega,by simp; omega⟩,⟨by omega,by simp; omega,by omega⟩,Ykb s03 h3i (Yjf ha hv)⟩

theorem Ybu:pg.underlying Zfu=some (.slice Zad):=by kernel_rfl
theorem Yng:pg.cellsOf Zad=2:=by kernel_rfl
theorem Yod:pg.okElem Zad=true:=by kernel_rfl
theorem Ymc:pg.bytesOf Zad≤127:=Nat.le_of_ble_eq_true (by kernel_rfl)
def Zdh {α:Type} (ty:TypeId) (enc:α→List Zau) (b:Nat) (h:Zaa) (a:Pt) (n:Nat) (l:List α):Prop:=l.length=n∧(n=0 ∨ ∃ i,a=some (i,0)∧b≤i∧h[i]?=some (.cells ty (Zdn enc l) false))
theorem Zdh.row {α:Type} {ty:TypeId} {enc:α→List Zau} {w b:Nat} {h:Zaa} {a:Pt} {n:Nat} {l:List α} (hw:∀ x,(enc x).length=w) (f:Zdh ty enc b h a n l):Row h.length h a (n * w) (Zdn enc l):=by
 obtain ⟨hl,h0 | ⟨i,ha,hb,hi⟩⟩:=f
 ·subst h0
  have:l=[]:=List.eq_nil_of_length_eq_zero hl
  subst this; simp; exact Row.nil
 ·rw [ha]; exact (Vec.mk1 (n:=0) (c:=0) hi).row (by rw [Zay hw,hl])
theorem Zdh.same {α:Type} {ty:TypeId} {enc:α→List Zau} {b:Nat} {h h':Zaa} {a:Pt} {n:Nat} {l:List α} (f:Zdh ty enc b h a n l) (s:Zbc h.length h h'):Zdh ty enc b h' a n l:=
 ⟨f.1,f.2.imp id fun ⟨i,ha,hb,hi⟩=>⟨i,ha,hb,by rw [s.eq i (Own.lt hi)]; exact hi⟩⟩
end Go.Sim

set_option linter.unusedVariables false
set_option linter.unusedSimpArgs false
set_option maxRecDepth 20000
namespace Go.Sim
open Go Go.RowKit

def Yki (a:Pt) (n:Nat) (h h':Zaa):Prop:=h.length≤h'.length∧∀ j,j < h.length→(∀ i,a=some (i,0)→n≠0→j≠i)→h'[j]?=h[j]?
theorem Yki.refl (a:Pt) (n:Nat) (h:Zaa):Yki a n h h:=⟨Nat.le_refl _,fun _ _ _=>rfl⟩
theorem Yki.same {a:Pt} {n:Nat} {h h1 h2:Zaa} (o:Yki a n h h1) (s:Zbc h1.length h1 h2):Yki a n h h2:=⟨Nat.le_trans o.1 s.le,fun j hj hn=>by rw [s.eq j (by have:=o.1; omega)]; exact o.2 j hj hn⟩
theorem Yki.set {n i:Nat} {h h1:Zaa} {x:Zcd} (o:Yki (some (i,0)) n h h1) (hn:n≠0):Yki (some (i,0)) n h (h1.set i x):=⟨by simp; exact o.1,fun j hj hne=>by rw [Zbs (fun e=>hne i rfl hn e.symm)]; exact o.2 j hj hne⟩
theorem Row.only {b:Nat} {h h':Zaa} {a a':Pt} {n m:Nat} {cs:List Zau} (r:Row b h a m cs) (o:Yki a' n h h') (hb:∀ i,a'=some (i,0)→n≠0→b≤i):Row b h' a m cs:=by
 obtain ⟨hl,r⟩:=r
 refine ⟨hl,r.imp id ?_⟩
 rintro ⟨i,o',t,all,ro,ha,hi,hg,x⟩
 exact ⟨i,o',t,all,ro,ha,hi,by rw [o.2 i (Own.lt hg) fun j hj hn=>by have:=hb j hj hn; omega]; exact hg,x⟩
theorem Zdh.only {α:Type} {ty:TypeId} {enc:α→List Zau} {b:Nat} {h h':Zaa} {a a':Pt} {n m:Nat} {l:List α} (f:Zdh ty enc b h a n l) (o:Yki a' m h h') (hb:∀ i,a'=some (i,0)→m≠0→∀ j,a=some (j,0)→j≠i):Zdh ty enc b h' a n l:=
 ⟨f.1,f.2.imp id fun ⟨i,ha,hbi,hi⟩=>⟨i,ha,hbi,by rw [o.2 i (Own.lt hi) fun j hj hn=>hb j hj hn i ha]; exact hi⟩⟩
end Go.Sim

set_option linter.unusedVariables false
set_option linter.unusedSimpArgs false
set_option maxRecDepth 20000
namespace Go.Sim
open Go Go.RowKit

structure EI where
 c:List Nat
 t:List Nat
 a:Pt
 n:Nat
 cp:Nat
 e:Bool
 deriving Inhabited
def eN (x:EI):List Zau:=[.str x.c,.str x.t,.slice x.a x.n x.cp x.e]
theorem Zpk (x:EI):(eN x).length=3:=rfl
def Ysk (h:Zaa) (x:EI) (i:Ins):Prop:=x.c=i.1.1∧x.t=i.1.2∧Row h.length h x.a (x.n * 2) (Zdn eP i.2)
def Yqd (h:Zaa) (xs:List EI) (is:List Ins):Prop:=xs.length=is.length∧∀ (k:Nat) (x:EI) (i:Ins),xs[k]?=some x→is[k]?=some i→Ysk h x i
structure Zmc (h:Zaa) (a0:Pt) (n0 c0:Nat) (a1:Pt) (n1 c1:Nat) (w:Wd):Prop where
 cls:Row h.length h a0 (n0 * 2) (Zdn eP w.cs)
 ins:∃ xs,Row h.length h a1 (n1 * 3) (Zdn eN xs)∧Yqd h xs w.is
 le0:n0≤c0
 le1:n1≤c1
theorem Row.same' {h h':Zaa} {a:Pt} {n:Nat} {cs:List Zau} (r:Row h.length h a n cs) (s:Zbc h.length h h'):Row h'.length h' a n cs:=(r.same s).mono s.le
theorem Ysk.same {h h':Zaa} {x:EI} {i:Ins} (r:Ysk h x i) (s:Zbc h.length h h'):Ysk h' x i:=⟨r.1,r.2.1,r.2.2.same' s⟩
theorem Yqd.same {h h':Zaa} {xs:List EI} {is:List Ins} (r:Yqd h xs is) (s:Zbc h.length h h'):Yqd h' xs is:=⟨r.1,fun k x i hx hi=>(r.2 k x i hx hi).same s⟩
theorem Zmc.same {h h':Zaa} {a0 a1:Pt} {n0 c0 n1 c1:Nat} {w:Wd} (r:Zmc h a0 n0 c0 a1 n1 c1 w) (s:Zbc h.length h h'):Zmc h' a0 n0 c0 a1 n1 c1 w:=
 ⟨r.cls.same' s,r.ins.imp fun xs ⟨r1,r2⟩=>⟨r1.same' s,r2.same s⟩,r.le0,r.le1⟩
theorem Ysk.len {h:Zaa} {x:EI} {i:Ins} (r:Ysk h x i):i.2.length=x.n:=by have:=r.2.2.1; rw [Zay Zea] at this; omega
theorem Zmc.len0 {h:Zaa} {a0 a1:Pt} {n0 c0 n1 c1:Nat} {w:Wd} (r:Zmc h a0 n0 c0 a1 n1 c1 w):w.cs.length=n0:=by have:=r.cls.1; rw [Zay Zea] at this; omega
theorem Zmc.len1 {h:Zaa} {a0 a1:Pt} {n0 c0 n1 c1:Nat} {w:Wd} (r:Zmc h a0 n0 c0 a1 n1 c1 w):w.is.length=n1:=by
 obtain ⟨xs,r1,r2,_⟩:=r.ins
 have:=r1.1; rw [Zay Zpk] at this; omega
theorem Zmc.class {h:Zaa} {a0 a1:Pt} {n0 c0 n1 c1:Nat} {w:Wd} (r:Zmc h a0 n0 c0 a1 n1 c1 w) {k:Nat} (hk:k < n0) :
  ∃ i o,∃ hk':k < w.cs.length,a0=some (i,o)∧i < h.length∧Zbj h (.ptr (some (i,o + k * 2))) 2=some [.str w.cs[k].1,.str w.cs[k].2]∧Zag h (.ptr (some (i,o + k * 2)))=some (.str w.cs[k].1)∧Zag h (.ptr (some (i,o + k * 2 + 1)))=some (.str w.cs[k].2):=by
 obtain ⟨i,o,hk',ha,hi,hr,hc⟩:=Row.el Zea r.cls r.len0 hk (by omega)
 exact ⟨i,o,hk',ha,hi,hr,by simpa [eP] using hc 0 (by omega),by simpa [eP] using hc 1 (by omega)⟩
theorem Zmc.inst {h:Zaa} {a0 a1:Pt} {n0 c0 n1 c1:Nat} {w:Wd} (r:Zmc h a0 n0 c0 a1 n1 c1 w) {k:Nat} (hk:k < n1) :
  ∃ i o,∃ hk':k < w.is.length,∃ a n cp e,a1=some (i,o)∧i < h.length∧Zbj h (.ptr (some (i,o + k * 3))) 3=some [.str w.is[k].1.1,.str w.is[k].1.2,.slice a n cp e]∧Zag h (.ptr (some (i,o + k * 3)))=some (.str w.is[k].1.1)∧Zag h (.ptr (some (i,o + k * 3 + 1)))=some (.str w.is[k].1.2)∧Zag h (.ptr (some (i,o + k * 3 + 2)))=some (.slice a n cp e) ∧
   Row h.length h a (n * 2) (Zdn eP w.is[k].2)∧w.is[k].2.length=n:=by
 have hl:=r.len1
 obtain ⟨xs,r1,r2,r3⟩:=r.ins
 obtain ⟨i,o,hk',ha,hi,hr,hc⟩:=Row.el Zpk r1 (by omega) hk (by omega)
 have hI:=r3 k xs[k] w.is[k] (List.getElem?_eq_getElem hk') (List.getElem?_eq_getElem (by omega))
 obtain ⟨e1,e2,e3⟩:=id hI
 refine ⟨i,o,by omega,xs[k].a,xs[k].n,xs[k].cp,xs[k].e,ha,hi,?_,?_,?_,?_,e3,hI.len⟩
 ·rw [hr,eN,e1,e2]
 ·have:=hc 0 (by omega); rw [← e1]; simpa [eN] using this
 ·have:=hc 1 (by omega); rw [← e2]; simpa [eN] using this
 ·have:=hc 2 (by omega); simpa [eN] using this
theorem Row.pr {b:Nat} {h:Zaa} {a:Pt} {n:Nat} {l:List Nd} (r:Row b h a (n * 2) (Zdn eP l)) {k:Nat} (hk:k < n) :
  ∃ i o,∃ hk':k < l.length,a=some (i,o)∧i < b∧Zbj h (.ptr (some (i,o + k * 2))) 2=some [.str l[k].1,.str l[k].2]∧Zag h (.ptr (some (i,o + k * 2)))=some (.str l[k].1)∧Zag h (.ptr (some (i,o + k * 2 + 1)))=some (.str l[k].2):=by
 have hl:l.length=n:=by have:=r.1; rw [Zay Zea] at this; omega
 obtain ⟨i,o,hk',ha,hi,hr,hc⟩:=Row.el Zea r hl hk (by omega)
 exact ⟨i,o,hk',ha,hi,hr,by simpa [eP] using hc 0 (by omega),by simpa [eP] using hc 1 (by omega)⟩

def Mid (lo hi:Nat) (h h':Zaa):Prop:=h.length≤h'.length∧∀ j,j < h.length→(j < lo ∨ hi≤j)→h'[j]?=h[j]?
theorem Mid.refl (lo hi:Nat) (h:Zaa):Mid lo hi h h:=⟨Nat.le_refl _,fun _ _ _=>rfl⟩
theorem Mid.trans {lo hi:Nat} {h h1 h2:Zaa} (a:Mid lo hi h h1) (b:Mid lo hi h1 h2):Mid lo hi h h2:=⟨Nat.le_trans a.1 b.1,fun j hj hn=>by rw [b.2 j (by have:=a.1; omega) hn]; exact a.2 j hj hn⟩
theorem Mid.of_same {lo hi:Nat} {h h':Zaa} (s:Zbc h.length h h'):Mid lo hi h h':=⟨s.le,fun j hj _=>s.eq j hj⟩
theorem Mid.same {lo hi:Nat} {h h1 h2:Zaa} (a:Mid lo hi h h1) (s:Zbc h1.length h1 h2):Mid lo hi h h2:=a.trans (Mid.of_same s)
theorem Mid.set {lo hi i:Nat} {h h1:Zaa} {x:Zcd} (o:Mid lo hi h h1) (h0:lo≤i) (h2:i < hi):Mid lo hi h (h1.set i x):=⟨by simp; exact o.1,fun j hj hne=>by rw [Zbs (by omega)]; exact o.2 j hj hne⟩
theorem Yki.mid {lo hi:Nat} {a:Pt} {n:Nat} {h h':Zaa} (o:Yki a n h h') (hb:∀ i,a=some (i,0)→n≠0→lo≤i∧i < hi):Mid lo hi h h':=⟨o.1,fun j hj hn=>o.2 j hj fun i hi h0=>by have:=hb i hi h0; omega⟩
theorem Zdh.in {α:Type} {ty:TypeId} {enc:α→List Zau} {b:Nat} {h:Zaa} {a:Pt} {n:Nat} {l:List α} (f:Zdh ty enc b h a n l):∀ i,a=some (i,0)→n≠0→b≤i∧i < h.length:=by
 intro i hi hn
 rcases f.2 with h0 | ⟨j,ha,hb,hj⟩
 ·exact absurd h0 hn
 ·rw [hi] at ha; cases ha; exact ⟨hb,Own.lt hj⟩
theorem Row.mid {lo hi b:Nat} {h h':Zaa} {a:Pt} {m:Nat} {cs:List Zau} (r:Row b h a m cs) (o:Mid lo hi h h') (hb:b≤lo):Row b h' a m cs:=by
 obtain ⟨hl,r⟩:=r
 refine ⟨hl,r.imp id ?_⟩
 rintro ⟨i,o',t,all,ro,ha,hi,hg,x⟩
 exact ⟨i,o',t,all,ro,ha,hi,by rw [o.2 i (Own.lt hg) (.inl (by omega))]; exact hg,x⟩
theorem Zdh.mid {α:Type} {ty:TypeId} {enc:α→List Zau} {lo hi b:Nat} {h h':Zaa} {a:Pt} {n:Nat} {l:List α} (f:Zdh ty enc b h a n l) (o:Mid lo hi h h') (hb:hi≤b):Zdh ty enc b h' a n l:=
 ⟨f.1,f.2.imp id fun ⟨i,ha,hbi,hi⟩=>⟨i,ha,hbi,by rw [o.2 i (Own.lt hi) (.inr (by omega))]; exact hi⟩⟩

structure Ztf (b:Nat) (h:Zaa) (a0:Pt) (n0:Nat) (a1:Pt) (n1:Nat) (xs:List EI) (w:Wd):Prop where
 cls:Zdh Zbf eP b h a0 n0 w.cs
 ins:Zdh Zac eN b h a1 n1 xs
 len:xs.length=w.is.length
 need:∀ (k:Nat) (x:EI) (i:Ins),xs[k]?=some x→w.is[k]?=some i→x.c=i.1.1∧x.t=i.1.2∧Zdh Zad eP b h x.a x.n i.2
 sep:∀ (j k:Nat) (x y:EI),j≠k→xs[j]?=some x→xs[k]?=some y→x.n≠0→y.n≠0→x.a≠y.a
 nn:∀ x∈xs,x.a≠none
 nc:a0≠none
theorem Ztf.same {b:Nat} {h h':Zaa} {a0 a1:Pt} {n0 n1:Nat} {xs:List EI} {w:Wd} (f:Ztf b h a0 n0 a1 n1 xs w) (s:Zbc h.length h h'):Ztf b h' a0 n0 a1 n1 xs w:=
 ⟨f.cls.same s,f.ins.same s,f.len,fun k x i hx hi=>⟨(f.need k x i hx hi).1,(f.need k x i hx hi).2.1,(f.need k x i hx hi).2.2.same s⟩,f.sep,f.nn,f.nc⟩
theorem Ztf.mid {lo hi b:Nat} {h h':Zaa} {a0 a1:Pt} {n0 n1:Nat} {xs:List EI} {w:Wd} (f:Ztf b h a0 n0 a1 n1 xs w) (s:Mid lo hi h h') (hb:hi≤b):Ztf b h' a0 n0 a1 n1 xs w:=
 ⟨f.cls.mid s hb,f.ins.mid s hb,f.len,fun k x i hx hi=>⟨(f.need k x i hx hi).1,(f.need k x i hx hi).2.1,(f.need k x i hx hi).2.2.mid s hb⟩,f.sep,f.nn,f.nc⟩
theorem Ztf.rep {b:Nat} {h:Zaa} {a0 a1:Pt} {n0 c0 n1 c1:Nat} {xs:List EI} {w:Wd} (f:Ztf b h a0 n0 a1 n1 xs w) (h0:n0≤c0) (h1:n1≤c1):Zmc h a0 n0 c0 a1 n1 c1 w:=
 ⟨f.cls.row Zea,⟨xs,f.ins.row Zpk,f.len,fun k x i hx hi=>⟨(f.need k x i hx hi).1,(f.need k x i hx hi).2.1,(f.need k x i hx hi).2.2.row Zea⟩⟩,h0,h1⟩
end Go.Sim

set_option linter.unusedVariables false
set_option linter.unusedSimpArgs false
set_option maxRecDepth 20000
namespace Go.Sim
open Go Go.RowKit

def one (c:Nat):List Nat:=[c]
theorem Zxy:pg.underlying Zkd=some (.slice Zbe):=by kernel_rfl
theorem Ydf:pg.cellsOf Zbe=1:=by kernel_rfl
theorem Ydo:pg.okElem Zbe=true:=by kernel_rfl
theorem Yea:pg.bytesOf Zbe≤127:=Nat.le_of_ble_eq_true (by kernel_rfl)
theorem Yla (s:List Nat) (h:Zaa):Zah pg Zqo [.str s] h fun v h'=>Zbc h.length h h'∧∃ a n c e,v=.slice a n c e∧Row h'.length h' a n (strs ((Zlc s).map one)):=by
 apply Zjv.call
 simp only [Zaw]
 have hlist:(h ++ [Zcd.cells Zbe [] false] ++ [Zcd.cells Zbe [.str [88],.str [89],.str [90],.str [120],.str [121],.str [122]] false])[h.length + 1]?=some (.cells Zbe [.str [88],.str [89],.str [90],.str [120],.str [121],.str [122]] false):=by simp
 have hlen:List.length (h ++ [Zcd.cells Zbe [] false])=h.length + 1:=by simp
 rw [hlen]
 refine Zjv.L3ind _ _ _ _ _ _ _ (J:=fun (g:Nat) a3 n3 c3 e3 x9 h'=>x9=(g:Int)∧g≤6∧Zbc h.length h h'∧h'[h.length + 1]?=some (.cells Zbe [.str [88],.str [89],.str [90],.str [120],.str [121],.str [122]] false)∧n3=(((Zed.take g).filter fun v=>decide (v∈s)).map one).length∧Vec Zbe h' a3 n3 c3 (strs (((Zed.take g).filter fun v=>decide (v∈s)).map one))∧∀ i,a3=some (i,0)→h.length≤i∧i≠h.length + 1) (fun g=>6 - g) ?_ 0 _ _ _ _ _ _
  ⟨rfl,by omega,(Zbc.app (Nat.le_refl _) _).trans (Zbc.app (by simp) _),hlist,by simp,Vec.mk1 (by simp),fun i hi=>by cases hi; omega⟩
 rintro g a3 n3 c3 e3 x9 h' ⟨rfl,hg,hS,hl,rfl,hv,ha⟩ R hR
 unfold Zjv.L3t
 refine Zat (fun hlt=>?_) (fun hge=>?_)
 ·have hlt':g < 6:=by omega
  have hc:∃ c,Zed[g]?=some c∧Zag h' (.ptr (some (h.length + 1,0 + (g:Int).toNat * 1)))=some (.str [c]):=by
   rw [Zao hl,Int.toNat_natCast]
   match g,hlt' with
   | 0,_ | 1,_ | 2,_ | 3,_ | 4,_ | 5,_=>exact ⟨_,rfl,rfl⟩
  obtain ⟨c,hc1,hc2⟩:=hc
  simp only [Zav,hc2,Zal]
  refine ⟨by omega,Zor.mono ?_⟩
  rintro v h2 ⟨rfl,rfl⟩
  simp only [Zap]
  have htk:Zed.take (g + 1)=Zed.take g ++ [c]:=by
   rw [List.take_succ,hc1]; rfl
  have hbd:(((Zed.take g).filter fun v=>decide (v∈s)).map one).length≤6:=by
   rw [List.length_map]
   exact Nat.le_trans (List.length_filter_le _ _) (by simp; omega)
  refine Zat (fun hin=>?_) (fun hout=>?_)
  ·simp only [Zaw]
   refine hv.push Zxy Ydf Ydo Yea (by simp) rfl (by omega) (fun h4 hl4 hi4 hk4=>?_)
   simp only [Zae]
   apply Zjv.J7i
   rw [Zbl (by omega)]
   have hle:=hS.le
   refine hR (g + 1) _ _ _ _ _ _ (by omega) ⟨rfl,by omega,⟨by omega,fun j hj=>?_⟩,?_,?_,Vec.mk1 ?_,fun i hi=>by cases hi; have:=Own.lt hl; omega⟩
   ·rw [hk4 j (by omega) fun i hi=>by have:=(ha i hi).1; omega]; exact hS.eq j hj
   ·rw [hk4 _ (Own.lt hl) fun i hi=>(ha i hi).2.symm]; exact hl
   ·rw [htk,List.filter_append]; simp [hin]
   ·rw [hi4,htk,List.filter_append]; simp [hin,strs,one]
  ·apply Zjv.J7i
   rw [Zbl (by omega)]
   have hf:(Zed.take (g + 1)).filter (fun v=>decide (v∈s))=(Zed.take g).filter fun v=>decide (v∈s):=by rw [htk,List.filter_append]; simp [hout]
   refine hR (g + 1) _ _ _ _ _ _ (by omega) ⟨rfl,by omega,hS,hl,by rw [hf],by rw [hf]; exact hv,ha⟩
 ·have:g=6:=by omega
  subst this
  apply Zjv.A3x0i
  refine ⟨hS,_,_,_,_,rfl,hv.row (by simp)⟩
end Go.Sim
