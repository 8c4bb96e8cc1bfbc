/-
  Lemmas towards the law, 18: MEnc, Redex.
-/
import Derived.Test.YtdkamgafpphdjaaGreatTAA
import Derived.Test.YtdkamgafpphdjaaGreatTAP
namespace Go.Proofs.YtdkamgafpphdjaaGreat
set_option linter.unusedVariables false
def enc:M.Tm->Tr
 | .var n=> .mk 1 n []
 | .sort n=> .mk 2 n []
 | .pi A B=> .mk 3 0 [enc A,enc B]
 | .lam A t=> .mk 4 0 [enc A,enc t]
 | .app f a=> .mk 5 0 [enc f,enc a]
 | .nat=> .mk 6 0 []
 | .zero=> .mk 7 0 []
 | .succ a=> .mk 8 0 [enc a]
 | .elim p z s a=> .mk 9 0 [enc p,enc z,enc s,enc a]
 | .id T a b=> .mk 10 0 [enc T,enc a,enc b]
 | .refl a=> .mk 11 0 [enc a]
 | .move p e a=> .mk 12 0 [enc p,enc e,enc a]
 | .sg A B=> .mk 13 0 [enc A,enc B]
 | .pair T a b=> .mk 14 0 [enc T,enc a,enc b]
 | .fst a=> .mk 15 0 [enc a]
 | .snd a=> .mk 16 0 [enc a]
def shr(y c n:Nat):Nat:=if c<=n then n+y else n
theorem y190(y c:Nat):M.Tm.upr (shr y c)=shr y (c+1):=by
 funext n
 cases n with
 |zero=> simp[M.Tm.upr,shr]
 |succ n=>
  show shr y c n+1=_
  unfold shr;by_cases h:c<=n
  · rw[if_pos h,if_pos (by omega)];omega
  · rw[if_neg h,if_neg (by omega)]
theorem q118(y:Nat): ∀(t:M.Tm) (c:Nat),shfT (y:Int) (enc t) (c:Int)=enc (t.ren (shr y c)):=by
 have u0: ∀(k:Int) (c:Nat),(c:Int)+und k 0=(c:Int):=fun k c=> by simp[und]
 intro t
 induction t with
 |var n=>
  intro c;simp only[enc,M.Tm.ren,shfT,q21,shr];by_cases h:c<=n
  · rw[if_pos ⟨trivial,by omega⟩,if_pos h];congr 1
  · rw[if_neg (fun e=> h (by omega)),if_neg h]
 |pi A B i1 i2=>
  intro c;simp only[enc,M.Tm.ren,shfT,q21,u0,i1,y190];rw[show(c:Int)+und 3 (0+1)=((c+1:Nat):Int) from rfl,i2]
  rfl
 |lam A B i1 i2=>
  intro c;simp only[enc,M.Tm.ren,shfT,q21,u0,i1,y190];rw[show(c:Int)+und 4 (0+1)=((c+1:Nat):Int) from rfl,i2]
  rfl
 |sg A B i1 i2=>
  intro c;simp only[enc,M.Tm.ren,shfT,q21,u0,i1,y190];rw[show(c:Int)+und 13 (0+1)=((c+1:Nat):Int) from rfl,i2]
  rfl
 |_=> intro c;simp_all [enc,M.Tm.ren,shfT,q21,und]
def sbk(u:M.Tm)(k n:Nat):M.Tm:=if n=k then u.ren (fun i=> i+k) else if k < n then .var (n - 1) else .var n
theorem y203(u:M.Tm):sbk u 0=M.Tm.cns u M.Tm.var:=by
 funext n
 cases n with
 |zero=> simp[sbk,M.Tm.cns,M.Tm.ren_id]
 |succ n=> simp[sbk,M.Tm.cns]
theorem j197(u:M.Tm)(k:Nat):M.Tm.ups (sbk u k)=sbk u (k+1):=by
 funext n
 cases n with
 |zero=> simp[M.Tm.ups,sbk]
 |succ n=>
  show M.Tm.wk (sbk u k n)=sbk u (k+1) (n+1)
  by_cases h:n=k
  · have e1:sbk u k n=u.ren (fun i=> i+k):=if_pos h
    have e2:sbk u (k+1) (n+1)=u.ren (fun i=> i+(k+1)):=if_pos (by omega);rw[e1,e2,M.Tm.wk,M.Tm.ren_ren];rfl
  · by_cases h2:k < n
    · have e1:sbk u k n= .var (n - 1):=by unfold sbk;rw[if_neg h,if_pos h2]
      have e2:sbk u (k+1) (n+1)= .var n:=by unfold sbk;rw[if_neg (by omega),if_pos (by omega)];rfl
      rw[e1,e2]
      show M.Tm.var (n - 1+1)=_
      congr 1
      omega
    · have e1:sbk u k n= .var n:=by unfold sbk;rw[if_neg h,if_neg h2]
      have e2:sbk u (k+1) (n+1)= .var (n+1):=by unfold sbk;rw[if_neg (by omega),if_neg (by omega)]
      rw[e1,e2];rfl
theorem y115(k:Nat):shr k 0=fun i=> i+k:=by funext i;simp[shr]
theorem enc_sbs(u:M.Tm): ∀(t:M.Tm) (k:Nat),sbsT (enc u) (enc t) (k:Int) (k:Int)=enc (t.sub (sbk u k)):=by
 have u0: ∀(k:Int) (c:Nat),(c:Int)+und k 0=(c:Int):=fun k c=> by simp[und]
 intro t
 induction t with
 |var n=>
  intro k;simp only[enc,M.Tm.sub,sbsT,y22,sbk];by_cases h:n=k
  · rw[if_pos ⟨trivial,by omega⟩,if_pos h,<-y115]
    exact q118 k u 0
  · rw[if_neg (fun e=> h (by omega)),if_neg h]
    by_cases h2:k < n
    · rw[if_pos ⟨trivial,by omega⟩,if_pos h2]
      simp only[enc]
      congr 1
      omega
    · rw[if_neg (fun e=> h2 (by omega)),if_neg h2];rfl
 |pi A B i1 i2=>
  intro c;simp only[enc,M.Tm.sub,sbsT,y22,u0,i1,j197];rw[show(c:Int)+und 3 (0+1)=((c+1:Nat):Int) from rfl,i2]
  rfl
 |lam A B i1 i2=>
  intro c;simp only[enc,M.Tm.sub,sbsT,y22,u0,i1,j197];rw[show(c:Int)+und 4 (0+1)=((c+1:Nat):Int) from rfl,i2]
  rfl
 |sg A B i1 i2=>
  intro c;simp only[enc,M.Tm.sub,sbsT,y22,u0,i1,j197];rw[show(c:Int)+und 13 (0+1)=((c+1:Nat):Int) from rfl,i2]
  rfl
 |_=> intro c;simp_all [enc,M.Tm.sub,sbsT,y22,und]
theorem y55(t u:M.Tm):sbsT (enc u) (enc t) 0 0=enc (t.inst u):=by
 have:=enc_sbs u t 0;rw[y203] at this;exact this
theorem q191: ∀{t u:M.Tm},enc t=enc u->t=u:=by
 intro t
 induction t <;> intro u h <;> cases u <;> simp[enc] at h⊢ <;> first|omega|(obtain⟨h1,h2,h3,h4⟩:=h;refine⟨?_, ?_, ?_, ?_⟩ <;> solve_by_elim) |(obtain⟨h1,h2,h3⟩:=h;refine⟨?_, ?_, ?_⟩ <;> solve_by_elim) |(obtain⟨h1,h2⟩:=h;refine⟨?_, ?_⟩ <;> solve_by_elim) |solve_by_elim
theorem enc_of: ∀(t:Tr) (d:Int),shape sigT t d=true-> ∃m,enc m=t:=Tr.ind fun k n ks ih=> by
 intro d h;obtain⟨hops,hn0,hn1,hks⟩:=j12 h;have hops2:opsT k=(ks.length:Int):=hops;have hmost:n<=q31 k:=hn1;have ih2: ∀t∈ks,∃m,enc m=t:=fun t ht=> ih t ht _ (hks t ht)
 have hz:k≠1->k≠2->n=0:=fun a b=> by unfold q31 at hmost;rw[if_neg a,if_neg b] at hmost;omega
 rcases y196 hops2 with rfl|rfl|rfl|rfl|rfl|rfl|rfl|rfl|rfl|rfl|rfl|rfl|rfl|rfl|rfl|rfl
 · have:ks= []:=List.eq_nil_of_length_eq_zero (by have:opsT 1=0:=rfl;omega)
   subst this;exact⟨.var n.toNat,by unfold enc;congr 1;omega⟩
 · have:ks= []:=List.eq_nil_of_length_eq_zero (by have:opsT 2=0:=rfl;omega)
   subst this;exact⟨.sort n.toNat,by unfold enc;congr 1;omega⟩
 · obtain rfl:=hz (by decide) (by decide)
   match ks,(show ks.length=2 by have:opsT 3=2:=rfl;omega),ih2 with
   | [x,y],_,ih2=>
    obtain⟨a,rfl⟩:=ih2 x (by simp);obtain⟨b,rfl⟩:=ih2 y (by simp);exact⟨.pi a b,rfl⟩
 · obtain rfl:=hz (by decide) (by decide)
   match ks,(show ks.length=2 by have:opsT 4=2:=rfl;omega),ih2 with
   | [x,y],_,ih2=>
    obtain⟨a,rfl⟩:=ih2 x (by simp);obtain⟨b,rfl⟩:=ih2 y (by simp);exact⟨.lam a b,rfl⟩
 · obtain rfl:=hz (by decide) (by decide)
   match ks,(show ks.length=2 by have:opsT 5=2:=rfl;omega),ih2 with
   | [x,y],_,ih2=>
    obtain⟨a,rfl⟩:=ih2 x (by simp);obtain⟨b,rfl⟩:=ih2 y (by simp);exact⟨.app a b,rfl⟩
 · obtain rfl:=hz (by decide) (by decide)
   match ks,(show ks.length=0 by have:opsT 6=0:=rfl;omega),ih2 with
   | [],_,ih2=>
    exact⟨.nat,rfl⟩
 · obtain rfl:=hz (by decide) (by decide)
   match ks,(show ks.length=0 by have:opsT 7=0:=rfl;omega),ih2 with
   | [],_,ih2=>
    exact⟨.zero,rfl⟩
 · obtain rfl:=hz (by decide) (by decide)
   match ks,(show ks.length=1 by have:opsT 8=1:=rfl;omega),ih2 with
   | [x],_,ih2=>
    obtain⟨a,rfl⟩:=ih2 x (by simp);exact⟨.succ a,rfl⟩
 · obtain rfl:=hz (by decide) (by decide)
   match ks,(show ks.length=4 by have:opsT 9=4:=rfl;omega),ih2 with
   | [x,y,u,v],_,ih2=>
    obtain⟨a,rfl⟩:=ih2 x (by simp);obtain⟨b,rfl⟩:=ih2 y (by simp);obtain⟨c,rfl⟩:=ih2 u (by simp);obtain⟨d,rfl⟩:=ih2 v (by simp);exact⟨.elim a b c d,rfl⟩
 · obtain rfl:=hz (by decide) (by decide)
   match ks,(show ks.length=3 by have:opsT 10=3:=rfl;omega),ih2 with
   | [x,y,u],_,ih2=>
    obtain⟨a,rfl⟩:=ih2 x (by simp);obtain⟨b,rfl⟩:=ih2 y (by simp);obtain⟨c,rfl⟩:=ih2 u (by simp);exact⟨.id a b c,rfl⟩
 · obtain rfl:=hz (by decide) (by decide)
   match ks,(show ks.length=1 by have:opsT 11=1:=rfl;omega),ih2 with
   | [x],_,ih2=>
    obtain⟨a,rfl⟩:=ih2 x (by simp);exact⟨.refl a,rfl⟩
 · obtain rfl:=hz (by decide) (by decide)
   match ks,(show ks.length=3 by have:opsT 12=3:=rfl;omega),ih2 with
   | [x,y,u],_,ih2=>
    obtain⟨a,rfl⟩:=ih2 x (by simp);obtain⟨b,rfl⟩:=ih2 y (by simp);obtain⟨c,rfl⟩:=ih2 u (by simp);exact⟨.move a b c,rfl⟩
 · obtain rfl:=hz (by decide) (by decide)
   match ks,(show ks.length=2 by have:opsT 13=2:=rfl;omega),ih2 with
   | [x,y],_,ih2=>
    obtain⟨a,rfl⟩:=ih2 x (by simp);obtain⟨b,rfl⟩:=ih2 y (by simp);exact⟨.sg a b,rfl⟩
 · obtain rfl:=hz (by decide) (by decide)
   match ks,(show ks.length=3 by have:opsT 14=3:=rfl;omega),ih2 with
   | [x,y,u],_,ih2=>
    obtain⟨a,rfl⟩:=ih2 x (by simp);obtain⟨b,rfl⟩:=ih2 y (by simp);obtain⟨c,rfl⟩:=ih2 u (by simp);exact⟨.pair a b c,rfl⟩
 · obtain rfl:=hz (by decide) (by decide)
   match ks,(show ks.length=1 by have:opsT 15=1:=rfl;omega),ih2 with
   | [x],_,ih2=>
    obtain⟨a,rfl⟩:=ih2 x (by simp);exact⟨.fst a,rfl⟩
 · obtain rfl:=hz (by decide) (by decide)
   match ks,(show ks.length=1 by have:opsT 16=1:=rfl;omega),ih2 with
   | [x],_,ih2=>
    obtain⟨a,rfl⟩:=ih2 x (by simp);exact⟨.snd a,rfl⟩
theorem enc_par{t t':M.Tm}(h:M.Par t t'):Par (enc t) (enc t'):=by
 induction h with
 |var n=> exact Par.refl _
 |sort n=> exact Par.refl _
 |nat=> exact Par.refl _
 |zero=> exact Par.refl _
 | @beta A b b' a a' h1 h2 i1 i2=>
  have h:=Par.red (k:=5) (n:=0) (ks:= [enc (.lam A b),enc a]) (by simp[rdx,kd,Tr.kind,enc]) (.cons (.node (k:=4) (n:=0) (.cons (Par.refl (enc A)) (.cons i1 .nil))) (.cons i2 .nil));rw[<-y55];exact h
 | @ez p z z' s h i=> exact Par.red (k:=9) (n:=0) (ks:= [enc p,enc z,enc s,enc .zero]) (by simp[rdx,kd,Tr.kind,enc]) (.cons (Par.refl _) (.cons i (.cons (Par.refl _) (.cons (Par.refl _) .nil))))
 | @es p p' z z' s s' a a' h1 h2 h3 h4 i1 i2 i3 i4=> exact Par.red (k:=9) (n:=0) (ks:= [enc p,enc z,enc s,enc (.succ a)]) (by simp[rdx,kd,Tr.kind,enc]) (.cons i1 (.cons i2 (.cons i3 (.cons (.node (k:=8) (n:=0) (.cons i4 .nil)) .nil))))
 | @mr p b a a' h i=> exact Par.red (k:=12) (n:=0) (ks:= [enc p,enc (.refl b),enc a]) (by simp[rdx,kd,Tr.kind,enc]) (.cons (Par.refl _) (.cons (Par.refl _) (.cons i .nil)))
 | @fp T a a' b h i=> exact Par.red (k:=15) (n:=0) (ks:= [enc (.pair T a b)]) (by simp[rdx,kd,Tr.kind,enc]) (.cons (.node (k:=14) (n:=0) (.cons (Par.refl _) (.cons i (.cons (Par.refl _) .nil)))) .nil)
 | @sp T a b b' h i=> exact Par.red (k:=16) (n:=0) (ks:= [enc (.pair T a b)]) (by simp[rdx,kd,Tr.kind,enc]) (.cons (.node (k:=14) (n:=0) (.cons (Par.refl _) (.cons (Par.refl _) (.cons i .nil)))) .nil)
 |elim h1 h2 h3 h4 i1 i2 i3 i4=> exact .node (.cons i1 (.cons i2 (.cons i3 (.cons i4 .nil))))
 |pi h1 h2 i1 i2=> exact .node (.cons i1 (.cons i2 .nil))
 |lam h1 h2 i1 i2=> exact .node (.cons i1 (.cons i2 .nil))
 |app h1 h2 i1 i2=> exact .node (.cons i1 (.cons i2 .nil))
 |sg h1 h2 i1 i2=> exact .node (.cons i1 (.cons i2 .nil))
 |id h1 h2 h3 i1 i2 i3=> exact .node (.cons i1 (.cons i2 (.cons i3 .nil)))
 |move h1 h2 h3 i1 i2 i3=> exact .node (.cons i1 (.cons i2 (.cons i3 .nil)))
 |pair h1 h2 h3 i1 i2 i3=> exact .node (.cons i1 (.cons i2 (.cons i3 .nil)))
 |succ h i=> exact .node (.cons i .nil)
 |refl h i=> exact .node (.cons i .nil)
 |fst h i=> exact .node (.cons i .nil)
 |snd h i=> exact .node (.cons i .nil)
theorem j181{t t':M.Tm}(h:M.Red t t'):Reds (enc t) (enc t'):=by
 induction h with
 |refl=> exact .refl _
 |step h1 _ ih=> exact(Reds.one (enc_par h1)).trans ih
theorem par_enc: ∀{t:M.Tm} {t':Tr},Par (enc t) t'-> ∃m,t'=enc m/\M.Par t m:=by
 have no: ∀{k:Int} {ks:List Tr},rdx k ks≠0->k=5\/k=9\/k=12\/k=15\/k=16:=by
  intro k ks h;by_cases h5:k=5
  · exact .inl h5
  by_cases h9:k=9
  · exact .inr (.inl h9)
  by_cases h12:k=12
  · exact .inr (.inr (.inl h12))
  by_cases h15:k=15
  · exact .inr (.inr (.inr (.inl h15)))
  by_cases h16:k=16
  · exact .inr (.inr (.inr (.inr h16)))
  exact absurd (j94 h5 h9 h12 h15 h16) h
 intro t
 induction t with
 |var n=> intro t' h;cases h with
  |node h=> cases h;exact⟨.var n,rfl, .var n⟩
  |red h=> exact absurd (no h) (by decide)
 |sort n=> intro t' h;cases h with
  |node h=> cases h;exact⟨.sort n,rfl, .sort n⟩
  |red h=> exact absurd (no h) (by decide)
 |nat=> intro t' h;cases h with
  |node h=> cases h;exact⟨.nat,rfl, .nat⟩
  |red h=> exact absurd (no h) (by decide)
 |zero=> intro t' h;cases h with
  |node h=> cases h;exact⟨.zero,rfl, .zero⟩
  |red h=> exact absurd (no h) (by decide)
 |pi A B i1 i2=> intro t' h;cases h with
  |node h=>
   cases h with
   |cons h1 h=>
   cases h with
   |cons h2 h=>
   cases h
   obtain⟨a,rfl,k1⟩:=i1 h1;obtain⟨b,rfl,k2⟩:=i2 h2;exact⟨.pi a b,rfl, .pi k1 k2⟩
  |red h=> exact absurd (no h) (by decide)
 |lam A B i1 i2=> intro t' h;cases h with
  |node h=>
   cases h with
   |cons h1 h=>
   cases h with
   |cons h2 h=>
   cases h
   obtain⟨a,rfl,k1⟩:=i1 h1;obtain⟨b,rfl,k2⟩:=i2 h2;exact⟨.lam a b,rfl, .lam k1 k2⟩
  |red h=> exact absurd (no h) (by decide)
 |sg A B i1 i2=> intro t' h;cases h with
  |node h=>
   cases h with
   |cons h1 h=>
   cases h with
   |cons h2 h=>
   cases h
   obtain⟨a,rfl,k1⟩:=i1 h1;obtain⟨b,rfl,k2⟩:=i2 h2;exact⟨.sg a b,rfl, .sg k1 k2⟩
  |red h=> exact absurd (no h) (by decide)
 |id A B D i1 i2 i3=> intro t' h;cases h with
  |node h=>
   cases h with
   |cons h1 h=>
   cases h with
   |cons h2 h=>
   cases h with
   |cons h3 h=>
   cases h
   obtain⟨a,rfl,k1⟩:=i1 h1;obtain⟨b,rfl,k2⟩:=i2 h2;obtain⟨c,rfl,k3⟩:=i3 h3;exact⟨.id a b c,rfl, .id k1 k2 k3⟩
  |red h=> exact absurd (no h) (by decide)
 |pair A B D i1 i2 i3=> intro t' h;cases h with
  |node h=>
   cases h with
   |cons h1 h=>
   cases h with
   |cons h2 h=>
   cases h with
   |cons h3 h=>
   cases h
   obtain⟨a,rfl,k1⟩:=i1 h1;obtain⟨b,rfl,k2⟩:=i2 h2;obtain⟨c,rfl,k3⟩:=i3 h3;exact⟨.pair a b c,rfl, .pair k1 k2 k3⟩
  |red h=> exact absurd (no h) (by decide)
 |succ A i1=> intro t' h;cases h with
  |node h=>
   cases h with
   |cons h1 h=>
   cases h
   obtain⟨a,rfl,k1⟩:=i1 h1;exact⟨.succ a,rfl, .succ k1⟩
  |red h=> exact absurd (no h) (by decide)
 |refl A i1=> intro t' h;cases h with
  |node h=>
   cases h with
   |cons h1 h=>
   cases h
   obtain⟨a,rfl,k1⟩:=i1 h1;exact⟨.refl a,rfl, .refl k1⟩
  |red h=> exact absurd (no h) (by decide)
 |app A B i1 i2=> intro t' h;cases h with
  |node h=>
   cases h with
   |cons h1 h=>
   cases h with
   |cons h2 h=>
   cases h
   obtain⟨a,rfl,k1⟩:=i1 h1;obtain⟨b,rfl,k2⟩:=i2 h2;exact⟨.app a b,rfl, .app k1 k2⟩
  |red hr h=>
   cases h with
   |cons h1 h=>
   cases h with
   |cons h2 h=>
   cases h
   obtain⟨a,rfl,k1⟩:=i1 h1;obtain⟨b,rfl,k2⟩:=i2 h2;cases A <;> simp[rdx,kd,Tr.kind,enc] at hr
   cases k1 with
   |lam l1 l2=> exact⟨_,by show sbsT (enc b) (enc _) 0 0=_;exact y55 _ _, .beta l2 k2⟩
 |fst A i1=> intro t' h;cases h with
  |node h=>
   cases h with
   |cons h1 h=>
   cases h
   obtain⟨a,rfl,k1⟩:=i1 h1;exact⟨.fst a,rfl, .fst k1⟩
  |red hr h=>
   cases h with
   |cons h1 h=>
   cases h
   obtain⟨a,rfl,k1⟩:=i1 h1;cases A <;> simp[rdx,kd,Tr.kind,enc] at hr
   cases k1 with
   |pair l1 l2 l3=> exact⟨_,rfl, .fp l2⟩
 |snd A i1=> intro t' h;cases h with
  |node h=>
   cases h with
   |cons h1 h=>
   cases h
   obtain⟨a,rfl,k1⟩:=i1 h1;exact⟨.snd a,rfl, .snd k1⟩
  |red hr h=>
   cases h with
   |cons h1 h=>
   cases h
   obtain⟨a,rfl,k1⟩:=i1 h1;cases A <;> simp[rdx,kd,Tr.kind,enc] at hr
   cases k1 with
   |pair l1 l2 l3=> exact⟨_,rfl, .sp l3⟩
 |move A B D i1 i2 i3=> intro t' h;cases h with
  |node h=>
   cases h with
   |cons h1 h=>
   cases h with
   |cons h2 h=>
   cases h with
   |cons h3 h=>
   cases h
   obtain⟨a,rfl,k1⟩:=i1 h1;obtain⟨b,rfl,k2⟩:=i2 h2;obtain⟨c,rfl,k3⟩:=i3 h3;exact⟨.move a b c,rfl, .move k1 k2 k3⟩
  |red hr h=>
   cases h with
   |cons h1 h=>
   cases h with
   |cons h2 h=>
   cases h with
   |cons h3 h=>
   cases h
   obtain⟨c,rfl,k3⟩:=i3 h3;cases B <;> simp[rdx,kd,Tr.kind,enc] at hr
   exact⟨c,rfl, .mr k3⟩
 |elim A B D E i1 i2 i3 i4=> intro t' h;cases h with
  |node h=>
   cases h with
   |cons h1 h=>
   cases h with
   |cons h2 h=>
   cases h with
   |cons h3 h=>
   cases h with
   |cons h4 h=>
   cases h
   obtain⟨a,rfl,k1⟩:=i1 h1;obtain⟨b,rfl,k2⟩:=i2 h2;obtain⟨c,rfl,k3⟩:=i3 h3;obtain⟨d,rfl,k4⟩:=i4 h4;exact⟨.elim a b c d,rfl, .elim k1 k2 k3 k4⟩
  |red hr h=>
   cases h with
   |cons h1 h=>
   cases h with
   |cons h2 h=>
   cases h with
   |cons h3 h=>
   cases h with
   |cons h4 h=>
   cases h
   obtain⟨a,rfl,k1⟩:=i1 h1;obtain⟨b,rfl,k2⟩:=i2 h2;obtain⟨c,rfl,k3⟩:=i3 h3;obtain⟨d,rfl,k4⟩:=i4 h4;cases E <;> simp[rdx,kd,Tr.kind,enc] at hr
   · cases k4
     exact⟨b,rfl, .ez k2⟩
   · cases k4 with
     |succ k5=> exact⟨_,rfl, .es k1 k2 k3 k5⟩
theorem y179{t' u:Tr}(h:Reds u t'): ∀{t:M.Tm},u=enc t-> ∃m,t'=enc m/\M.Red t m:=by
 induction h with
 |refl=> intro t e;exact⟨t,e, .refl t⟩
 |step h1 h2 ih=>
  intro t e;obtain⟨m,e1,r1⟩:=ih e;subst e1;obtain⟨m2,e2,r2⟩:=par_enc h2;exact⟨m2,e2,r1.trans (.one r2)⟩
end Go.Proofs.YtdkamgafpphdjaaGreat
namespace Go.Proofs.YtdkamgafpphdjaaGreat
open Go.RowKit
set_option linter.unusedVariables false
theorem j195{k n:Int}{ks:List Tr}{d:Int}(h:shape sigT (.mk k n ks) d=true):(opsT k=(ks.length:Int))/\(k=1\/k=2\/k=3\/k=4\/k=5\/k=6\/k=7\/k=8\/k=9\/k=10\/k=11\/k=12\/k=13\/k=14\/k=15\/k=16):=by
 obtain⟨h1,h2,h3,h4⟩:=y25 h;simp only[sigT] at h1;have hr:1<=k/\k<=16:=by
  by_cases h:1<=k/\k<=16
  · exact h
  · exfalso
    unfold opsT at h1;rw[if_neg (by omega),if_neg (by omega),if_neg (by omega),if_neg (by omega),if_neg (by omega),if_neg (by omega),if_neg (by omega),if_neg (by omega),if_neg (by omega),if_neg (by omega),if_neg (by omega),if_neg (by omega),if_neg (by omega),if_neg (by omega),if_neg (by omega),if_neg (by omega)] at h1;omega
 exact⟨h1,by omega⟩
theorem j37{ks:List Tr}{j:Nat}{t:Tr}(hj:j < ks.length)(h:ks[j]=t):kd ks j=t:=by
 unfold kd;rw[List.getD_eq_getElem?_getD,List.getElem?_eq_getElem hj];exact h
set_option maxRecDepth 100000 in
set_option maxHeartbeats 1000000 in
theorem q36(t:Tr)(d:Int)(hsh:shape sigT t d=true)(w:World)(v:Value)(hin:Lies w t v):Calls Tryz.prog 56 #[v] w fun e w'=> e= .returned (.int .i64 (rdxT t))/\Ext w w':=by
 obtain⟨k,n,ks⟩:=t;obtain⟨A,cap,rfl,hl,hc,hK⟩:=Lies.mk_iff.1 hin;obtain⟨hops,hk⟩:=j195 hsh;unfold maxLen at hc;clear hsh hin;rcases hk with rfl|rfl|rfl|rfl|rfl|rfl|rfl|rfl|rfl|rfl|rfl|rfl|rfl|rfl|rfl|rfl
 · rw[show rdxT (.mk 1 n ks)=0 from rfl]
   clear hops hK;go_enter Tryz.func56,Tryz.ntmps56;go_wp2_with fail;go_ret;exact⟨rfl,(xr _).alloc _⟩
 · rw[show rdxT (.mk 2 n ks)=0 from rfl]
   clear hops hK;go_enter Tryz.func56,Tryz.ntmps56;go_wp2_with fail;go_ret;exact⟨rfl,(xr _).alloc _⟩
 · rw[show rdxT (.mk 3 n ks)=0 from rfl]
   clear hops hK;go_enter Tryz.func56,Tryz.ntmps56;go_wp2_with fail;go_ret;exact⟨rfl,(xr _).alloc _⟩
 · rw[show rdxT (.mk 4 n ks)=0 from rfl]
   clear hops hK;go_enter Tryz.func56,Tryz.ntmps56;go_wp2_with fail;go_ret;exact⟨rfl,(xr _).alloc _⟩
 · have hlen:ks.length=2:=by have:(2:Int)=(ks.length:Int):=hops;omega
   have hlt:(0:Int) <(ks.length:Int):=by omega
   obtain⟨b,o,k',n',A',cap',kids,rfl,hid,c0,c1,c2,-,-,-,-,-⟩:=hK.get ((xr w).alloc (.cells #[.int .i64 5, .int .i64 n, .slice A ks.length cap] 25)) (j:=0) (by omega);simp only[Nat.zero_mul,Nat.add_zero] at c0;clear c1 c2;have hkd:kd ks 0= .mk k' n' kids:=j37 (by omega) hid.out;have hR:rdxT (.mk 5 n ks)=if k'=4 then 1 else 0:=by show rdx 5 ks=_;unfold rdx;rw[hkd];rfl
   rw[hR];clear hR hkd hid hops hK hlen;by_cases e4:k'=4
   · subst e4
     rw[if_pos rfl];go_enter Tryz.func56,Tryz.ntmps56;go_wp2_with fail;go_ret;exact⟨rfl,(xr _).alloc _⟩
   have d4:(k'==4)=false:=beq_eq_false_iff_ne.2 e4;rw[if_neg e4];go_enter Tryz.func56,Tryz.ntmps56;go_wp2_with fail;go_ret;exact⟨rfl,(xr _).alloc _⟩
 · rw[show rdxT (.mk 6 n ks)=0 from rfl]
   clear hops hK;go_enter Tryz.func56,Tryz.ntmps56;go_wp2_with fail;go_ret;exact⟨rfl,(xr _).alloc _⟩
 · rw[show rdxT (.mk 7 n ks)=0 from rfl]
   clear hops hK;go_enter Tryz.func56,Tryz.ntmps56;go_wp2_with fail;go_ret;exact⟨rfl,(xr _).alloc _⟩
 · rw[show rdxT (.mk 8 n ks)=0 from rfl]
   clear hops hK;go_enter Tryz.func56,Tryz.ntmps56;go_wp2_with fail;go_ret;exact⟨rfl,(xr _).alloc _⟩
 · have hlen:ks.length=4:=by have:(4:Int)=(ks.length:Int):=hops;omega
   have hlt:(3:Int) <(ks.length:Int):=by omega
   obtain⟨b,o,k',n',A',cap',kids,rfl,hid,c0,c1,c2,-,-,-,-,-⟩:=hK.get ((xr w).alloc (.cells #[.int .i64 9, .int .i64 n, .slice A ks.length cap] 25)) (j:=3) (by omega);simp only[Nat.reduceMul] at c0;clear c1 c2;have hkd:kd ks 3= .mk k' n' kids:=j37 (by omega) hid.out;have hR:rdxT (.mk 9 n ks)=if k'=7 then 2 else if k'=8 then 3 else 0:=by show rdx 9 ks=_;unfold rdx;rw[hkd];rfl
   rw[hR];clear hR hkd hid hops hK hlen;by_cases e7:k'=7
   · subst e7
     rw[if_pos rfl];go_enter Tryz.func56,Tryz.ntmps56;go_wp2_with fail;go_ret;exact⟨rfl,(xr _).alloc _⟩
   by_cases e8:k'=8
   · subst e8
     rw[if_neg (by decide),if_pos rfl];go_enter Tryz.func56,Tryz.ntmps56;go_wp2_with fail;go_ret;exact⟨rfl,(xr _).alloc _⟩
   have d7:(k'==7)=false:=beq_eq_false_iff_ne.2 e7;have d8:(k'==8)=false:=beq_eq_false_iff_ne.2 e8;rw[if_neg e7,if_neg e8];go_enter Tryz.func56,Tryz.ntmps56;go_wp2_with fail;go_ret;exact⟨rfl,(xr _).alloc _⟩
 · rw[show rdxT (.mk 10 n ks)=0 from rfl]
   clear hops hK;go_enter Tryz.func56,Tryz.ntmps56;go_wp2_with fail;go_ret;exact⟨rfl,(xr _).alloc _⟩
 · rw[show rdxT (.mk 11 n ks)=0 from rfl]
   clear hops hK;go_enter Tryz.func56,Tryz.ntmps56;go_wp2_with fail;go_ret;exact⟨rfl,(xr _).alloc _⟩
 · have hlen:ks.length=3:=by have:(3:Int)=(ks.length:Int):=hops;omega
   have hlt:(1:Int) <(ks.length:Int):=by omega
   obtain⟨b,o,k',n',A',cap',kids,rfl,hid,c0,c1,c2,-,-,-,-,-⟩:=hK.get ((xr w).alloc (.cells #[.int .i64 12, .int .i64 n, .slice A ks.length cap] 25)) (j:=1) (by omega);simp only[Nat.reduceMul] at c0;clear c1 c2;have hkd:kd ks 1= .mk k' n' kids:=j37 (by omega) hid.out;have hR:rdxT (.mk 12 n ks)=if k'=11 then 4 else 0:=by show rdx 12 ks=_;unfold rdx;rw[hkd];rfl
   rw[hR];clear hR hkd hid hops hK hlen;by_cases e11:k'=11
   · subst e11
     rw[if_pos rfl];go_enter Tryz.func56,Tryz.ntmps56;go_wp2_with fail;go_ret;exact⟨rfl,(xr _).alloc _⟩
   have d11:(k'==11)=false:=beq_eq_false_iff_ne.2 e11;rw[if_neg e11];go_enter Tryz.func56,Tryz.ntmps56;go_wp2_with fail;go_ret;exact⟨rfl,(xr _).alloc _⟩
 · rw[show rdxT (.mk 13 n ks)=0 from rfl]
   clear hops hK;go_enter Tryz.func56,Tryz.ntmps56;go_wp2_with fail;go_ret;exact⟨rfl,(xr _).alloc _⟩
 · rw[show rdxT (.mk 14 n ks)=0 from rfl]
   clear hops hK;go_enter Tryz.func56,Tryz.ntmps56;go_wp2_with fail;go_ret;exact⟨rfl,(xr _).alloc _⟩
 · have hlen:ks.length=1:=by have:(1:Int)=(ks.length:Int):=hops;omega
   have hlt:(0:Int) <(ks.length:Int):=by omega
   obtain⟨b,o,k',n',A',cap',kids,rfl,hid,c0,c1,c2,-,-,-,-,-⟩:=hK.get ((xr w).alloc (.cells #[.int .i64 15, .int .i64 n, .slice A ks.length cap] 25)) (j:=0) (by omega);simp only[Nat.zero_mul,Nat.add_zero] at c0;clear c1 c2;have hkd:kd ks 0= .mk k' n' kids:=j37 (by omega) hid.out;have hR:rdxT (.mk 15 n ks)=if k'=14 then 5 else 0:=by show rdx 15 ks=_;unfold rdx;rw[hkd];rfl
   rw[hR];clear hR hkd hid hops hK hlen;by_cases e14:k'=14
   · subst e14
     rw[if_pos rfl];go_enter Tryz.func56,Tryz.ntmps56;go_wp2_with fail;go_ret;exact⟨rfl,(xr _).alloc _⟩
   have d14:(k'==14)=false:=beq_eq_false_iff_ne.2 e14;rw[if_neg e14];go_enter Tryz.func56,Tryz.ntmps56;go_wp2_with fail;go_ret;exact⟨rfl,(xr _).alloc _⟩
 · have hlen:ks.length=1:=by have:(1:Int)=(ks.length:Int):=hops;omega
   have hlt:(0:Int) <(ks.length:Int):=by omega
   obtain⟨b,o,k',n',A',cap',kids,rfl,hid,c0,c1,c2,-,-,-,-,-⟩:=hK.get ((xr w).alloc (.cells #[.int .i64 16, .int .i64 n, .slice A ks.length cap] 25)) (j:=0) (by omega);simp only[Nat.zero_mul,Nat.add_zero] at c0;clear c1 c2;have hkd:kd ks 0= .mk k' n' kids:=j37 (by omega) hid.out;have hR:rdxT (.mk 16 n ks)=if k'=14 then 6 else 0:=by show rdx 16 ks=_;unfold rdx;rw[hkd];rfl
   rw[hR];clear hR hkd hid hops hK hlen;by_cases e14:k'=14
   · subst e14
     rw[if_pos rfl];go_enter Tryz.func56,Tryz.ntmps56;go_wp2_with fail;go_ret;exact⟨rfl,(xr _).alloc _⟩
   have d14:(k'==14)=false:=beq_eq_false_iff_ne.2 e14;rw[if_neg e14];go_enter Tryz.func56,Tryz.ntmps56;go_wp2_with fail;go_ret;exact⟨rfl,(xr _).alloc _⟩
set_option maxRecDepth 100000 in
set_option maxHeartbeats 1000000 in
theorem j144(t:Tr)(d:Int)(hsh:shape sigT t d=true)(w:World)(v:Value)(hin:Lies w t v):Calls Tryz.prog 59 #[v] w fun e w'=> e= .returned (.int .i64 (rdxT t))/\Ext w w':=by
 obtain⟨k,n,ks⟩:=t;obtain⟨A,cap,rfl,hl,hc,hK⟩:=Lies.mk_iff.1 hin;obtain⟨hops,hk⟩:=j195 hsh;unfold maxLen at hc;clear hsh hin;rcases hk with rfl|rfl|rfl|rfl|rfl|rfl|rfl|rfl|rfl|rfl|rfl|rfl|rfl|rfl|rfl|rfl
 · rw[show rdxT (.mk 1 n ks)=0 from rfl]
   clear hops hK;go_enter Tryz.func59,Tryz.ntmps59;go_wp2_with fail;go_ret;exact⟨rfl,(xr _).alloc _⟩
 · rw[show rdxT (.mk 2 n ks)=0 from rfl]
   clear hops hK;go_enter Tryz.func59,Tryz.ntmps59;go_wp2_with fail;go_ret;exact⟨rfl,(xr _).alloc _⟩
 · rw[show rdxT (.mk 3 n ks)=0 from rfl]
   clear hops hK;go_enter Tryz.func59,Tryz.ntmps59;go_wp2_with fail;go_ret;exact⟨rfl,(xr _).alloc _⟩
 · rw[show rdxT (.mk 4 n ks)=0 from rfl]
   clear hops hK;go_enter Tryz.func59,Tryz.ntmps59;go_wp2_with fail;go_ret;exact⟨rfl,(xr _).alloc _⟩
 · have hlen:ks.length=2:=by have:(2:Int)=(ks.length:Int):=hops;omega
   have hlt:(0:Int) <(ks.length:Int):=by omega
   obtain⟨b,o,k',n',A',cap',kids,rfl,hid,c0,c1,c2,-,-,-,-,-⟩:=hK.get ((xr w).alloc (.cells #[.int .i64 5, .int .i64 n, .slice A ks.length cap] 25)) (j:=0) (by omega);simp only[Nat.zero_mul,Nat.add_zero] at c0;clear c1 c2;have hkd:kd ks 0= .mk k' n' kids:=j37 (by omega) hid.out;have hR:rdxT (.mk 5 n ks)=if k'=4 then 1 else 0:=by show rdx 5 ks=_;unfold rdx;rw[hkd];rfl
   rw[hR];clear hR hkd hid hops hK hlen;by_cases e4:k'=4
   · subst e4
     rw[if_pos rfl];go_enter Tryz.func59,Tryz.ntmps59;go_wp2_with fail;go_ret;exact⟨rfl,(xr _).alloc _⟩
   have d4:(k'==4)=false:=beq_eq_false_iff_ne.2 e4;rw[if_neg e4];go_enter Tryz.func59,Tryz.ntmps59;go_wp2_with fail;go_ret;exact⟨rfl,(xr _).alloc _⟩
 · rw[show rdxT (.mk 6 n ks)=0 from rfl]
   clear hops hK;go_enter Tryz.func59,Tryz.ntmps59;go_wp2_with fail;go_ret;exact⟨rfl,(xr _).alloc _⟩
 · rw[show rdxT (.mk 7 n ks)=0 from rfl]
   clear hops hK;go_enter Tryz.func59,Tryz.ntmps59;go_wp2_with fail;go_ret;exact⟨rfl,(xr _).alloc _⟩
 · rw[show rdxT (.mk 8 n ks)=0 from rfl]
   clear hops hK;go_enter Tryz.func59,Tryz.ntmps59;go_wp2_with fail;go_ret;exact⟨rfl,(xr _).alloc _⟩
 · have hlen:ks.length=4:=by have:(4:Int)=(ks.length:Int):=hops;omega
   have hlt:(3:Int) <(ks.length:Int):=by omega
   obtain⟨b,o,k',n',A',cap',kids,rfl,hid,c0,c1,c2,-,-,-,-,-⟩:=hK.get ((xr w).alloc (.cells #[.int .i64 9, .int .i64 n, .slice A ks.length cap] 25)) (j:=3) (by omega);simp only[Nat.reduceMul] at c0;clear c1 c2;have hkd:kd ks 3= .mk k' n' kids:=j37 (by omega) hid.out;have hR:rdxT (.mk 9 n ks)=if k'=7 then 2 else if k'=8 then 3 else 0:=by show rdx 9 ks=_;unfold rdx;rw[hkd];rfl
   rw[hR];clear hR hkd hid hops hK hlen;by_cases e7:k'=7
   · subst e7
     rw[if_pos rfl];go_enter Tryz.func59,Tryz.ntmps59;go_wp2_with fail;go_ret;exact⟨rfl,(xr _).alloc _⟩
   by_cases e8:k'=8
   · subst e8
     rw[if_neg (by decide),if_pos rfl];go_enter Tryz.func59,Tryz.ntmps59;go_wp2_with fail;go_ret;exact⟨rfl,(xr _).alloc _⟩
   have d7:(k'==7)=false:=beq_eq_false_iff_ne.2 e7;have d8:(k'==8)=false:=beq_eq_false_iff_ne.2 e8;rw[if_neg e7,if_neg e8];go_enter Tryz.func59,Tryz.ntmps59;go_wp2_with fail;go_ret;exact⟨rfl,(xr _).alloc _⟩
 · rw[show rdxT (.mk 10 n ks)=0 from rfl]
   clear hops hK;go_enter Tryz.func59,Tryz.ntmps59;go_wp2_with fail;go_ret;exact⟨rfl,(xr _).alloc _⟩
 · rw[show rdxT (.mk 11 n ks)=0 from rfl]
   clear hops hK;go_enter Tryz.func59,Tryz.ntmps59;go_wp2_with fail;go_ret;exact⟨rfl,(xr _).alloc _⟩
 · have hlen:ks.length=3:=by have:(3:Int)=(ks.length:Int):=hops;omega
   have hlt:(1:Int) <(ks.length:Int):=by omega
   obtain⟨b,o,k',n',A',cap',kids,rfl,hid,c0,c1,c2,-,-,-,-,-⟩:=hK.get ((xr w).alloc (.cells #[.int .i64 12, .int .i64 n, .slice A ks.length cap] 25)) (j:=1) (by omega);simp only[Nat.reduceMul] at c0;clear c1 c2;have hkd:kd ks 1= .mk k' n' kids:=j37 (by omega) hid.out;have hR:rdxT (.mk 12 n ks)=if k'=11 then 4 else 0:=by show rdx 12 ks=_;unfold rdx;rw[hkd];rfl
   rw[hR];clear hR hkd hid hops hK hlen;by_cases e11:k'=11
   · subst e11
     rw[if_pos rfl];go_enter Tryz.func59,Tryz.ntmps59;go_wp2_with fail;go_ret;exact⟨rfl,(xr _).alloc _⟩
   have d11:(k'==11)=false:=beq_eq_false_iff_ne.2 e11;rw[if_neg e11];go_enter Tryz.func59,Tryz.ntmps59;go_wp2_with fail;go_ret;exact⟨rfl,(xr _).alloc _⟩
 · rw[show rdxT (.mk 13 n ks)=0 from rfl]
   clear hops hK;go_enter Tryz.func59,Tryz.ntmps59;go_wp2_with fail;go_ret;exact⟨rfl,(xr _).alloc _⟩
 · rw[show rdxT (.mk 14 n ks)=0 from rfl]
   clear hops hK;go_enter Tryz.func59,Tryz.ntmps59;go_wp2_with fail;go_ret;exact⟨rfl,(xr _).alloc _⟩
 · have hlen:ks.length=1:=by have:(1:Int)=(ks.length:Int):=hops;omega
   have hlt:(0:Int) <(ks.length:Int):=by omega
   obtain⟨b,o,k',n',A',cap',kids,rfl,hid,c0,c1,c2,-,-,-,-,-⟩:=hK.get ((xr w).alloc (.cells #[.int .i64 15, .int .i64 n, .slice A ks.length cap] 25)) (j:=0) (by omega);simp only[Nat.zero_mul,Nat.add_zero] at c0;clear c1 c2;have hkd:kd ks 0= .mk k' n' kids:=j37 (by omega) hid.out;have hR:rdxT (.mk 15 n ks)=if k'=14 then 5 else 0:=by show rdx 15 ks=_;unfold rdx;rw[hkd];rfl
   rw[hR];clear hR hkd hid hops hK hlen;by_cases e14:k'=14
   · subst e14
     rw[if_pos rfl];go_enter Tryz.func59,Tryz.ntmps59;go_wp2_with fail;go_ret;exact⟨rfl,(xr _).alloc _⟩
   have d14:(k'==14)=false:=beq_eq_false_iff_ne.2 e14;rw[if_neg e14];go_enter Tryz.func59,Tryz.ntmps59;go_wp2_with fail;go_ret;exact⟨rfl,(xr _).alloc _⟩
 · have hlen:ks.length=1:=by have:(1:Int)=(ks.length:Int):=hops;omega
   have hlt:(0:Int) <(ks.length:Int):=by omega
   obtain⟨b,o,k',n',A',cap',kids,rfl,hid,c0,c1,c2,-,-,-,-,-⟩:=hK.get ((xr w).alloc (.cells #[.int .i64 16, .int .i64 n, .slice A ks.length cap] 25)) (j:=0) (by omega);simp only[Nat.zero_mul,Nat.add_zero] at c0;clear c1 c2;have hkd:kd ks 0= .mk k' n' kids:=j37 (by omega) hid.out;have hR:rdxT (.mk 16 n ks)=if k'=14 then 6 else 0:=by show rdx 16 ks=_;unfold rdx;rw[hkd];rfl
   rw[hR];clear hR hkd hid hops hK hlen;by_cases e14:k'=14
   · subst e14
     rw[if_pos rfl];go_enter Tryz.func59,Tryz.ntmps59;go_wp2_with fail;go_ret;exact⟨rfl,(xr _).alloc _⟩
   have d14:(k'==14)=false:=beq_eq_false_iff_ne.2 e14;rw[if_neg e14];go_enter Tryz.func59,Tryz.ntmps59;go_wp2_with fail;go_ret;exact⟨rfl,(xr _).alloc _⟩
end Go.Proofs.YtdkamgafpphdjaaGreat
