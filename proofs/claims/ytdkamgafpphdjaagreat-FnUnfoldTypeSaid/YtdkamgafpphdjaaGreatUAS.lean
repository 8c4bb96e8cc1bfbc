/-
  Lemmas towards the law, 19: MEnc, Subst2.
-/
import Derived.Test.YtdkamgafpphdjaaGreatUAA
import Derived.Test.YtdkamgafpphdjaaGreatUAQ
set_option maxHeartbeats 20000000
set_option maxRecDepth 100000
namespace Go.Proofs.YtdkamgafpphdjaaGreat
set_option linter.unusedVariables false
def enc:M.Tm->Tr
 | .var n=> .mk 1 n []
 | .sort n=> .mk 2 n []
 | .pi A B=> .mk 3 0 [enc A,enc B]
 | .lam A t=> .mk 4 0 [enc A,enc t]
 | .app f a=> .mk 5 0 [enc f,enc a]
 | .nat=> .mk 6 0 []
 | .zero=> .mk 7 0 []
 | .succ a=> .mk 8 0 [enc a]
 | .elim p z s a=> .mk 9 0 [enc p,enc z,enc s,enc a]
 | .id T a b=> .mk 10 0 [enc T,enc a,enc b]
 | .refl a=> .mk 11 0 [enc a]
 | .move p e a=> .mk 12 0 [enc p,enc e,enc a]
 | .sg A B=> .mk 13 0 [enc A,enc B]
 | .pair T a b=> .mk 14 0 [enc T,enc a,enc b]
 | .fst a=> .mk 15 0 [enc a]
 | .snd a=> .mk 16 0 [enc a]
def shr(y c n:Nat):Nat:=if c<=n then n+y else n
theorem y198(y c:Nat):M.Tm.upr (shr y c)=shr y (c+1):=by
 funext n
 cases n with
 |zero=> simp[M.Tm.upr,shr]
 |succ n=>
  show shr y c n+1=_
  unfold shr;by_cases h:c<=n
  · rw[if_pos h,if_pos (by omega)];omega
  · rw[if_neg h,if_neg (by omega)]
theorem j118(y:Nat): ∀(t:M.Tm) (c:Nat),shfT (y:Int) (enc t) (c:Int)=enc (t.ren (shr y c)):=by
 have u0: ∀(k:Int) (c:Nat),(c:Int)+und k 0=(c:Int):=fun k c=> by simp[und]
 intro t
 induction t with
 |var n=>
  intro c;simp only[enc,M.Tm.ren,shfT,q18,shr];by_cases h:c<=n
  · rw[if_pos ⟨trivial,by omega⟩,if_pos h];congr 1
  · rw[if_neg (fun e=> h (by omega)),if_neg h]
 |pi A B i1 i2=>
  intro c;simp only[enc,M.Tm.ren,shfT,q18,u0,i1,y198];rw[show(c:Int)+und 3 (0+1)=((c+1:Nat):Int) from rfl,i2]
  rfl
 |lam A B i1 i2=>
  intro c;simp only[enc,M.Tm.ren,shfT,q18,u0,i1,y198];rw[show(c:Int)+und 4 (0+1)=((c+1:Nat):Int) from rfl,i2]
  rfl
 |sg A B i1 i2=>
  intro c;simp only[enc,M.Tm.ren,shfT,q18,u0,i1,y198];rw[show(c:Int)+und 13 (0+1)=((c+1:Nat):Int) from rfl,i2]
  rfl
 |_=> intro c;simp_all [enc,M.Tm.ren,shfT,q18,und]
def sbk(u:M.Tm)(k n:Nat):M.Tm:=if n=k then u.ren (fun i=> i+k) else if k < n then .var (n - 1) else .var n
theorem q222(u:M.Tm):sbk u 0=M.Tm.cns u M.Tm.var:=by
 funext n
 cases n with
 |zero=> simp[sbk,M.Tm.cns,M.Tm.ren_id]
 |succ n=> simp[sbk,M.Tm.cns]
theorem j192(u:M.Tm)(k:Nat):M.Tm.ups (sbk u k)=sbk u (k+1):=by
 funext n
 cases n with
 |zero=> simp[M.Tm.ups,sbk]
 |succ n=>
  show M.Tm.wk (sbk u k n)=sbk u (k+1) (n+1)
  by_cases h:n=k
  · have e1:sbk u k n=u.ren (fun i=> i+k):=if_pos h
    have e2:sbk u (k+1) (n+1)=u.ren (fun i=> i+(k+1)):=if_pos (by omega);rw[e1,e2,M.Tm.wk,M.Tm.ren_ren];rfl
  · by_cases h2:k < n
    · have e1:sbk u k n= .var (n - 1):=by unfold sbk;rw[if_neg h,if_pos h2]
      have e2:sbk u (k+1) (n+1)= .var n:=by unfold sbk;rw[if_neg (by omega),if_pos (by omega)];rfl
      rw[e1,e2]
      show M.Tm.var (n - 1+1)=_
      congr 1
      omega
    · have e1:sbk u k n= .var n:=by unfold sbk;rw[if_neg h,if_neg h2]
      have e2:sbk u (k+1) (n+1)= .var (n+1):=by unfold sbk;rw[if_neg (by omega),if_neg (by omega)]
      rw[e1,e2];rfl
theorem q116(k:Nat):shr k 0=fun i=> i+k:=by funext i;simp[shr]
theorem enc_sbs(u:M.Tm): ∀(t:M.Tm) (k:Nat),sbsT (enc u) (enc t) (k:Int) (k:Int)=enc (t.sub (sbk u k)):=by
 have u0: ∀(k:Int) (c:Nat),(c:Int)+und k 0=(c:Int):=fun k c=> by simp[und]
 intro t
 induction t with
 |var n=>
  intro k;simp only[enc,M.Tm.sub,sbsT,q20,sbk];by_cases h:n=k
  · rw[if_pos ⟨trivial,by omega⟩,if_pos h,<-q116]
    exact j118 k u 0
  · rw[if_neg (fun e=> h (by omega)),if_neg h]
    by_cases h2:k < n
    · rw[if_pos ⟨trivial,by omega⟩,if_pos h2]
      simp only[enc]
      congr 1
      omega
    · rw[if_neg (fun e=> h2 (by omega)),if_neg h2];rfl
 |pi A B i1 i2=>
  intro c;simp only[enc,M.Tm.sub,sbsT,q20,u0,i1,j192];rw[show(c:Int)+und 3 (0+1)=((c+1:Nat):Int) from rfl,i2]
  rfl
 |lam A B i1 i2=>
  intro c;simp only[enc,M.Tm.sub,sbsT,q20,u0,i1,j192];rw[show(c:Int)+und 4 (0+1)=((c+1:Nat):Int) from rfl,i2]
  rfl
 |sg A B i1 i2=>
  intro c;simp only[enc,M.Tm.sub,sbsT,q20,u0,i1,j192];rw[show(c:Int)+und 13 (0+1)=((c+1:Nat):Int) from rfl,i2]
  rfl
 |_=> intro c;simp_all [enc,M.Tm.sub,sbsT,q20,und]
theorem j38(t u:M.Tm):sbsT (enc u) (enc t) 0 0=enc (t.inst u):=by
 have:=enc_sbs u t 0;rw[q222] at this;exact this
theorem y137: ∀{t u:M.Tm},enc t=enc u->t=u:=by
 intro t
 induction t <;> intro u h <;> cases u <;> simp[enc] at h⊢ <;> first|omega|(obtain⟨h1,h2,h3,h4⟩:=h;refine⟨?_, ?_, ?_, ?_⟩ <;> solve_by_elim) |(obtain⟨h1,h2,h3⟩:=h;refine⟨?_, ?_, ?_⟩ <;> solve_by_elim) |(obtain⟨h1,h2⟩:=h;refine⟨?_, ?_⟩ <;> solve_by_elim) |solve_by_elim
theorem enc_of: ∀(t:Tr) (d:Int),shape sigT t d=true-> ∃m,enc m=t:=Tr.ind fun k n ks ih=> by
 intro d h;obtain⟨hops,hn0,hn1,hks⟩:=y12 h;have hops2:opsT k=(ks.length:Int):=hops;have hmost:n<=q28 k:=hn1;have ih2: ∀t∈ks,∃m,enc m=t:=fun t ht=> ih t ht _ (hks t ht)
 have hz:k≠1->k≠2->n=0:=fun a b=> by unfold q28 at hmost;rw[if_neg a,if_neg b] at hmost;omega
 rcases q172 hops2 with rfl|rfl|rfl|rfl|rfl|rfl|rfl|rfl|rfl|rfl|rfl|rfl|rfl|rfl|rfl|rfl
 · have:ks= []:=List.eq_nil_of_length_eq_zero (by have:opsT 1=0:=rfl;omega)
   subst this;exact⟨.var n.toNat,by unfold enc;congr 1;omega⟩
 · have:ks= []:=List.eq_nil_of_length_eq_zero (by have:opsT 2=0:=rfl;omega)
   subst this;exact⟨.sort n.toNat,by unfold enc;congr 1;omega⟩
 · obtain rfl:=hz (by decide) (by decide)
   match ks,(show ks.length=2 by have:opsT 3=2:=rfl;omega),ih2 with
   | [x,y],_,ih2=>
    obtain⟨a,rfl⟩:=ih2 x (by simp);obtain⟨b,rfl⟩:=ih2 y (by simp);exact⟨.pi a b,rfl⟩
 · obtain rfl:=hz (by decide) (by decide)
   match ks,(show ks.length=2 by have:opsT 4=2:=rfl;omega),ih2 with
   | [x,y],_,ih2=>
    obtain⟨a,rfl⟩:=ih2 x (by simp);obtain⟨b,rfl⟩:=ih2 y (by simp);exact⟨.lam a b,rfl⟩
 · obtain rfl:=hz (by decide) (by decide)
   match ks,(show ks.length=2 by have:opsT 5=2:=rfl;omega),ih2 with
   | [x,y],_,ih2=>
    obtain⟨a,rfl⟩:=ih2 x (by simp);obtain⟨b,rfl⟩:=ih2 y (by simp);exact⟨.app a b,rfl⟩
 · obtain rfl:=hz (by decide) (by decide)
   match ks,(show ks.length=0 by have:opsT 6=0:=rfl;omega),ih2 with
   | [],_,ih2=>
    exact⟨.nat,rfl⟩
 · obtain rfl:=hz (by decide) (by decide)
   match ks,(show ks.length=0 by have:opsT 7=0:=rfl;omega),ih2 with
   | [],_,ih2=>
    exact⟨.zero,rfl⟩
 · obtain rfl:=hz (by decide) (by decide)
   match ks,(show ks.length=1 by have:opsT 8=1:=rfl;omega),ih2 with
   | [x],_,ih2=>
    obtain⟨a,rfl⟩:=ih2 x (by simp);exact⟨.succ a,rfl⟩
 · obtain rfl:=hz (by decide) (by decide)
   match ks,(show ks.length=4 by have:opsT 9=4:=rfl;omega),ih2 with
   | [x,y,u,v],_,ih2=>
    obtain⟨a,rfl⟩:=ih2 x (by simp);obtain⟨b,rfl⟩:=ih2 y (by simp);obtain⟨c,rfl⟩:=ih2 u (by simp);obtain⟨d,rfl⟩:=ih2 v (by simp);exact⟨.elim a b c d,rfl⟩
 · obtain rfl:=hz (by decide) (by decide)
   match ks,(show ks.length=3 by have:opsT 10=3:=rfl;omega),ih2 with
   | [x,y,u],_,ih2=>
    obtain⟨a,rfl⟩:=ih2 x (by simp);obtain⟨b,rfl⟩:=ih2 y (by simp);obtain⟨c,rfl⟩:=ih2 u (by simp);exact⟨.id a b c,rfl⟩
 · obtain rfl:=hz (by decide) (by decide)
   match ks,(show ks.length=1 by have:opsT 11=1:=rfl;omega),ih2 with
   | [x],_,ih2=>
    obtain⟨a,rfl⟩:=ih2 x (by simp);exact⟨.refl a,rfl⟩
 · obtain rfl:=hz (by decide) (by decide)
   match ks,(show ks.length=3 by have:opsT 12=3:=rfl;omega),ih2 with
   | [x,y,u],_,ih2=>
    obtain⟨a,rfl⟩:=ih2 x (by simp);obtain⟨b,rfl⟩:=ih2 y (by simp);obtain⟨c,rfl⟩:=ih2 u (by simp);exact⟨.move a b c,rfl⟩
 · obtain rfl:=hz (by decide) (by decide)
   match ks,(show ks.length=2 by have:opsT 13=2:=rfl;omega),ih2 with
   | [x,y],_,ih2=>
    obtain⟨a,rfl⟩:=ih2 x (by simp);obtain⟨b,rfl⟩:=ih2 y (by simp);exact⟨.sg a b,rfl⟩
 · obtain rfl:=hz (by decide) (by decide)
   match ks,(show ks.length=3 by have:opsT 14=3:=rfl;omega),ih2 with
   | [x,y,u],_,ih2=>
    obtain⟨a,rfl⟩:=ih2 x (by simp);obtain⟨b,rfl⟩:=ih2 y (by simp);obtain⟨c,rfl⟩:=ih2 u (by simp);exact⟨.pair a b c,rfl⟩
 · obtain rfl:=hz (by decide) (by decide)
   match ks,(show ks.length=1 by have:opsT 15=1:=rfl;omega),ih2 with
   | [x],_,ih2=>
    obtain⟨a,rfl⟩:=ih2 x (by simp);exact⟨.fst a,rfl⟩
 · obtain rfl:=hz (by decide) (by decide)
   match ks,(show ks.length=1 by have:opsT 16=1:=rfl;omega),ih2 with
   | [x],_,ih2=>
    obtain⟨a,rfl⟩:=ih2 x (by simp);exact⟨.snd a,rfl⟩
theorem enc_par{t t':M.Tm}(h:M.Par t t'):Par (enc t) (enc t'):=by
 induction h with
 |var n=> exact Par.refl _
 |sort n=> exact Par.refl _
 |nat=> exact Par.refl _
 |zero=> exact Par.refl _
 | @beta A b b' a a' h1 h2 i1 i2=>
  have h:=Par.red (k:=5) (n:=0) (ks:= [enc (.lam A b),enc a]) (by simp[rdx,kd,Tr.kind,enc]) (.cons (.node (k:=4) (n:=0) (.cons (Par.refl (enc A)) (.cons i1 .nil))) (.cons i2 .nil));rw[<-j38];exact h
 | @ez p z z' s h i=> exact Par.red (k:=9) (n:=0) (ks:= [enc p,enc z,enc s,enc .zero]) (by simp[rdx,kd,Tr.kind,enc]) (.cons (Par.refl _) (.cons i (.cons (Par.refl _) (.cons (Par.refl _) .nil))))
 | @es p p' z z' s s' a a' h1 h2 h3 h4 i1 i2 i3 i4=> exact Par.red (k:=9) (n:=0) (ks:= [enc p,enc z,enc s,enc (.succ a)]) (by simp[rdx,kd,Tr.kind,enc]) (.cons i1 (.cons i2 (.cons i3 (.cons (.node (k:=8) (n:=0) (.cons i4 .nil)) .nil))))
 | @mr p b a a' h i=> exact Par.red (k:=12) (n:=0) (ks:= [enc p,enc (.refl b),enc a]) (by simp[rdx,kd,Tr.kind,enc]) (.cons (Par.refl _) (.cons (Par.refl _) (.cons i .nil)))
 | @fp T a a' b h i=> exact Par.red (k:=15) (n:=0) (ks:= [enc (.pair T a b)]) (by simp[rdx,kd,Tr.kind,enc]) (.cons (.node (k:=14) (n:=0) (.cons (Par.refl _) (.cons i (.cons (Par.refl _) .nil)))) .nil)
 | @sp T a b b' h i=> exact Par.red (k:=16) (n:=0) (ks:= [enc (.pair T a b)]) (by simp[rdx,kd,Tr.kind,enc]) (.cons (.node (k:=14) (n:=0) (.cons (Par.refl _) (.cons (Par.refl _) (.cons i .nil)))) .nil)
 |elim h1 h2 h3 h4 i1 i2 i3 i4=> exact .node (.cons i1 (.cons i2 (.cons i3 (.cons i4 .nil))))
 |pi h1 h2 i1 i2=> exact .node (.cons i1 (.cons i2 .nil))
 |lam h1 h2 i1 i2=> exact .node (.cons i1 (.cons i2 .nil))
 |app h1 h2 i1 i2=> exact .node (.cons i1 (.cons i2 .nil))
 |sg h1 h2 i1 i2=> exact .node (.cons i1 (.cons i2 .nil))
 |id h1 h2 h3 i1 i2 i3=> exact .node (.cons i1 (.cons i2 (.cons i3 .nil)))
 |move h1 h2 h3 i1 i2 i3=> exact .node (.cons i1 (.cons i2 (.cons i3 .nil)))
 |pair h1 h2 h3 i1 i2 i3=> exact .node (.cons i1 (.cons i2 (.cons i3 .nil)))
 |succ h i=> exact .node (.cons i .nil)
 |refl h i=> exact .node (.cons i .nil)
 |fst h i=> exact .node (.cons i .nil)
 |snd h i=> exact .node (.cons i .nil)
theorem q174{t t':M.Tm}(h:M.Red t t'):Reds (enc t) (enc t'):=by
 induction h with
 |refl=> exact .refl _
 |step h1 _ ih=> exact(Reds.one (enc_par h1)).trans ih
theorem par_enc: ∀{t:M.Tm} {t':Tr},Par (enc t) t'-> ∃m,t'=enc m/\M.Par t m:=by
 have no: ∀{k:Int} {ks:List Tr},rdx k ks≠0->k=5\/k=9\/k=12\/k=15\/k=16:=by
  intro k ks h;by_cases h5:k=5
  · exact .inl h5
  by_cases h9:k=9
  · exact .inr (.inl h9)
  by_cases h12:k=12
  · exact .inr (.inr (.inl h12))
  by_cases h15:k=15
  · exact .inr (.inr (.inr (.inl h15)))
  by_cases h16:k=16
  · exact .inr (.inr (.inr (.inr h16)))
  exact absurd (j89 h5 h9 h12 h15 h16) h
 intro t
 induction t with
 |var n=> intro t' h;cases h with
  |node h=> cases h;exact⟨.var n,rfl,.var n⟩
  |red h=> exact absurd (no h) (by decide)
 |sort n=> intro t' h;cases h with
  |node h=> cases h;exact⟨.sort n,rfl,.sort n⟩
  |red h=> exact absurd (no h) (by decide)
 |nat=> intro t' h;cases h with
  |node h=> cases h;exact⟨.nat,rfl,.nat⟩
  |red h=> exact absurd (no h) (by decide)
 |zero=> intro t' h;cases h with
  |node h=> cases h;exact⟨.zero,rfl,.zero⟩
  |red h=> exact absurd (no h) (by decide)
 |pi A B i1 i2=> intro t' h;cases h with
  |node h=>
   cases h with
   |cons h1 h=>
   cases h with
   |cons h2 h=>
   cases h
   obtain⟨a,rfl,k1⟩:=i1 h1;obtain⟨b,rfl,k2⟩:=i2 h2;exact⟨.pi a b,rfl,.pi k1 k2⟩
  |red h=> exact absurd (no h) (by decide)
 |lam A B i1 i2=> intro t' h;cases h with
  |node h=>
   cases h with
   |cons h1 h=>
   cases h with
   |cons h2 h=>
   cases h
   obtain⟨a,rfl,k1⟩:=i1 h1;obtain⟨b,rfl,k2⟩:=i2 h2;exact⟨.lam a b,rfl,.lam k1 k2⟩
  |red h=> exact absurd (no h) (by decide)
 |sg A B i1 i2=> intro t' h;cases h with
  |node h=>
   cases h with
   |cons h1 h=>
   cases h with
   |cons h2 h=>
   cases h
   obtain⟨a,rfl,k1⟩:=i1 h1;obtain⟨b,rfl,k2⟩:=i2 h2;exact⟨.sg a b,rfl,.sg k1 k2⟩
  |red h=> exact absurd (no h) (by decide)
 |id A B D i1 i2 i3=> intro t' h;cases h with
  |node h=>
   cases h with
   |cons h1 h=>
   cases h with
   |cons h2 h=>
   cases h with
   |cons h3 h=>
   cases h
   obtain⟨a,rfl,k1⟩:=i1 h1;obtain⟨b,rfl,k2⟩:=i2 h2;obtain⟨c,rfl,k3⟩:=i3 h3;exact⟨.id a b c,rfl,.id k1 k2 k3⟩
  |red h=> exact absurd (no h) (by decide)
 |pair A B D i1 i2 i3=> intro t' h;cases h with
  |node h=>
   cases h with
   |cons h1 h=>
   cases h with
   |cons h2 h=>
   cases h with
   |cons h3 h=>
   cases h
   obtain⟨a,rfl,k1⟩:=i1 h1;obtain⟨b,rfl,k2⟩:=i2 h2;obtain⟨c,rfl,k3⟩:=i3 h3;exact⟨.pair a b c,rfl,.pair k1 k2 k3⟩
  |red h=> exact absurd (no h) (by decide)
 |succ A i1=> intro t' h;cases h with
  |node h=>
   cases h with
   |cons h1 h=>
   cases h
   obtain⟨a,rfl,k1⟩:=i1 h1;exact⟨.succ a,rfl,.succ k1⟩
  |red h=> exact absurd (no h) (by decide)
 |refl A i1=> intro t' h;cases h with
  |node h=>
   cases h with
   |cons h1 h=>
   cases h
   obtain⟨a,rfl,k1⟩:=i1 h1;exact⟨.refl a,rfl,.refl k1⟩
  |red h=> exact absurd (no h) (by decide)
 |app A B i1 i2=> intro t' h;cases h with
  |node h=>
   cases h with
   |cons h1 h=>
   cases h with
   |cons h2 h=>
   cases h
   obtain⟨a,rfl,k1⟩:=i1 h1;obtain⟨b,rfl,k2⟩:=i2 h2;exact⟨.app a b,rfl,.app k1 k2⟩
  |red hr h=>
   cases h with
   |cons h1 h=>
   cases h with
   |cons h2 h=>
   cases h
   obtain⟨a,rfl,k1⟩:=i1 h1;obtain⟨b,rfl,k2⟩:=i2 h2;cases A <;> simp[rdx,kd,Tr.kind,enc] at hr
   cases k1 with
   |lam l1 l2=> exact⟨_,by show sbsT (enc b) (enc _) 0 0=_;exact j38 _ _,.beta l2 k2⟩
 |fst A i1=> intro t' h;cases h with
  |node h=>
   cases h with
   |cons h1 h=>
   cases h
   obtain⟨a,rfl,k1⟩:=i1 h1;exact⟨.fst a,rfl,.fst k1⟩
  |red hr h=>
   cases h with
   |cons h1 h=>
   cases h
   obtain⟨a,rfl,k1⟩:=i1 h1;cases A <;> simp[rdx,kd,Tr.kind,enc] at hr
   cases k1 with
   |pair l1 l2 l3=> exact⟨_,rfl,.fp l2⟩
 |snd A i1=> intro t' h;cases h with
  |node h=>
   cases h with
   |cons h1 h=>
   cases h
   obtain⟨a,rfl,k1⟩:=i1 h1;exact⟨.snd a,rfl,.snd k1⟩
  |red hr h=>
   cases h with
   |cons h1 h=>
   cases h
   obtain⟨a,rfl,k1⟩:=i1 h1;cases A <;> simp[rdx,kd,Tr.kind,enc] at hr
   cases k1 with
   |pair l1 l2 l3=> exact⟨_,rfl,.sp l3⟩
 |move A B D i1 i2 i3=> intro t' h;cases h with
  |node h=>
   cases h with
   |cons h1 h=>
   cases h with
   |cons h2 h=>
   cases h with
   |cons h3 h=>
   cases h
   obtain⟨a,rfl,k1⟩:=i1 h1;obtain⟨b,rfl,k2⟩:=i2 h2;obtain⟨c,rfl,k3⟩:=i3 h3;exact⟨.move a b c,rfl,.move k1 k2 k3⟩
  |red hr h=>
   cases h with
   |cons h1 h=>
   cases h with
   |cons h2 h=>
   cases h with
   |cons h3 h=>
   cases h
   obtain⟨c,rfl,k3⟩:=i3 h3;cases B <;> simp[rdx,kd,Tr.kind,enc] at hr
   exact⟨c,rfl,.mr k3⟩
 |elim A B D E i1 i2 i3 i4=> intro t' h;cases h with
  |node h=>
   cases h with
   |cons h1 h=>
   cases h with
   |cons h2 h=>
   cases h with
   |cons h3 h=>
   cases h with
   |cons h4 h=>
   cases h
   obtain⟨a,rfl,k1⟩:=i1 h1;obtain⟨b,rfl,k2⟩:=i2 h2;obtain⟨c,rfl,k3⟩:=i3 h3;obtain⟨d,rfl,k4⟩:=i4 h4;exact⟨.elim a b c d,rfl,.elim k1 k2 k3 k4⟩
  |red hr h=>
   cases h with
   |cons h1 h=>
   cases h with
   |cons h2 h=>
   cases h with
   |cons h3 h=>
   cases h with
   |cons h4 h=>
   cases h
   obtain⟨a,rfl,k1⟩:=i1 h1;obtain⟨b,rfl,k2⟩:=i2 h2;obtain⟨c,rfl,k3⟩:=i3 h3;obtain⟨d,rfl,k4⟩:=i4 h4;cases E <;> simp[rdx,kd,Tr.kind,enc] at hr
   · cases k4
     exact⟨b,rfl,.ez k2⟩
   · cases k4 with
     |succ k5=> exact⟨_,rfl,.es k1 k2 k3 k5⟩
theorem q189{t' u:Tr}(h:Reds u t'): ∀{t:M.Tm},u=enc t-> ∃m,t'=enc m/\M.Red t m:=by
 induction h with
 |refl=> intro t e;exact⟨t,e,.refl t⟩
 |step h1 h2 ih=>
  intro t e;obtain⟨m,e1,r1⟩:=ih e;subst e1;obtain⟨m2,e2,r2⟩:=par_enc h2;exact⟨m2,e2,r1.trans (.one r2)⟩
end Go.Proofs.YtdkamgafpphdjaaGreat
namespace Go.Proofs.YtdkamgafpphdjaaGreat
open Go.RowKit
set_option linter.unusedVariables false
attribute [local go_sem ↓] Go.wp_at_zero Go.wp_at_succ
attribute [local go_sem] ldO
theorem y128(u:Tr): ∀{k:Int} {ts:List Tr} {i j:Nat} {x d:Int} (h:j < ts.length),(q20 u k ts i x d)[j]'(by rw[y76];exact h)=sbsT u ts[j] (x+und k (i+j)) (d+und k (i+j))
 |k,t::ts,i,0,x,d,h=> by simp[q20]
 |k,t::ts,i,j+1,x,d,h=> by
  simp only[q20,List.getElem_cons_succ];rw[y128 u (j:=j) (by simpa using h),show i+1+j=i+(j+1) by omega]
def q215(t:Tr):Prop:= ∀(w:World) (v:Value) (x:Int) (u:Tr) (vu:Value) (dp d:Int),shape sigT t d=true->Lies w t v->cnt t<=1000->shape sigT u 30=true->cnt u<=1000->Lies w u vu->0<=x->x+cnt t<=1000000->0<=dp->dp+cnt t<=1000000->
 Calls Tryz.prog 123 #[v,.int .i64 x,vu,.int .i64 dp] w fun e w'=> ∃r,e= .returned r/\Made w w' 25 (sbsT u t x dp) r/\Ext w w'
theorem y136: ∀t:Tr,q215 t:=Tr.ind fun k n ks hk=> by
 intro w v x u vu dp d hsh hin hcnt hshu hcu hinu hx0 hx1 hd0 hd1;obtain⟨-,hn0,hn1,hsk⟩:=y12 hsh;have hmost:=q68 k;obtain⟨A,cap,rfl,hl,hc,hK⟩:=Lies.mk_iff.1 hin;have HUX:=hdq (fun W (hW:Ext w W)=> y140 u W vu dp 0 30 hshu (hinu.ext hW) hcu hd0 (by omega) (by omega) (by omega));have HKK:=hdq (fun t ht W kv x' d' h1 h2 h3 h4 h5 h6 (hW:Ext w W)=> hk t ht W kv x' u vu d' (d - 1) (hsk t ht) h1 h2 hshu hcu (hinu.ext hW) h3 h4 h5 h6);have hinu2:=hinu;obtain⟨ku,nu,kus⟩:=u;obtain⟨Au,cu,rfl,hlu,hcu',-⟩:=Lies.mk_iff.1 hinu;obtain⟨i0,hi,hz0,hz1,hz2⟩:=info_parts j206;have hcc:=hc;unfold maxLen at hcc;simp only[cnt] at hcnt hx1 hd1;have hlc:=j16 ks;obtain⟨b1,d1⟩: ∃b1,(k==1)=b1:=⟨_,rfl⟩;obtain⟨rs,hrs⟩: ∃rs,rs=q20 (.mk ku nu kus) k ks 0 x dp:=⟨_,rfl⟩;have hrl:rs.length=ks.length:=by rw[hrs,y76]
 have hget: ∀j (h:j < ks.length),rs[j]'(by omega)=sbsT (.mk ku nu kus) ks[j] (x+und k j) (dp+und k j):=fun j h=> by
  subst hrs;rw[y128 _ h,Nat.zero_add]
 have hres:sbsT (.mk ku nu kus) (.mk k n ks) x dp=if k=1/\n=x then shfT dp (.mk ku nu kus) 0 else .mk k (if k=1/\x < n then n - 1 else n) rs:=by
  rw[hrs]
  conv=> lhs;unfold sbsT
 have HGET:=hdq hget;clear hrs hget hinu;cases b1 with
 |true=>
  obtain rfl:k=1:=by simpa using d1
  obtain⟨rfl,-,-⟩:=j69 hsh;obtain rfl:rs= []:=List.eq_nil_of_length_eq_zero (by simpa using hrl);by_cases h1:n=x
  · rw[hres,if_pos ⟨rfl,h1⟩]
    have d2:(n==x)=true:=beq_iff_eq.2 h1;clear hres h1 HKK HGET;go_enter Tryz.func123,Tryz.ntmps123;go_wp2_with fail;have hE1:=(((xr w).alloc (.cells #[.int .i64 1,.int .i64 n,.slice A 0 cap] 25)).alloc (.cells #[.int .i64 ku,.int .i64 nu,.slice Au kus.length cu] 25)).alloc (.cells #[.int .i64 0,.int .i64 0,.slice none 0 0] 25);obtain⟨-,-,hbR,hsz⟩:=blk3 (xr (((w.alloc (.cells #[.int .i64 1,.int .i64 n,.slice A 0 cap] 25)).alloc (.cells #[.int .i64 ku,.int .i64 nu,.slice Au kus.length cu] 25)).alloc (.cells #[.int .i64 0,.int .i64 0,.slice none 0 0] 25)));refine(HUX.out _ hE1).mono ?_;rintro e w1 ⟨r,rfl,hM,e1⟩;obtain⟨a1,a2,a3,a4,a5,rfl⟩:=hM.three';obtain⟨s0,s1,s2,f0,f1,f2⟩:=own3 (e1.blk hbR);go_wp2_with fail;refine bodyPost_ret (v:= .agg #[.int .i64 a1,.int .i64 a2,.slice a3 a4 a5]) (by simp[results,Tryz.results123,go_sem,s0,s1,s2]) rfl ⟨_,rfl, ?_, ?_⟩
    · exact Made.since (hM.after ((((q23.refl _ _).setCell (by simp) _).setCell (by simp) _).setCell (by simp) _)) (by simp;omega)
    · exact((((hE1.trans e1).setCell (by simp;omega) _).setCell (by simp;omega) _).setCell (by simp;omega) _)
  · have d2:(n==x)=false:=beq_eq_false_iff_ne.2 h1
    by_cases h2:x < n
    · have d3:decide (x < n)=true:=decide_eq_true h2
      rw[hres,if_neg (fun h=> h1 h.2),if_pos ⟨rfl,h2⟩];clear hres h1 HKK HGET HUX;go_enter Tryz.func123,Tryz.ntmps123;go_wp2_with fail;refine wp_loop_rounds 1 ?_;rw[rounds_succ];go_wp2_with fail;exact bodyPost_ret (v:= .agg #[.int .i64 1,.int .i64 (n - 1),.slice none 0 0]) (by simp[results,Tryz.results123,go_sem]) rfl ⟨_,rfl,Made.leaf _ _ _ _ _,((((xr w).alloc _).alloc _).alloc _).alloc _⟩
    · have d3:decide (x < n)=false:=decide_eq_false h2
      rw[hres,if_neg (fun h=> h1 h.2),if_neg (fun h=> h2 h.2)];clear hres h1 HKK HGET HUX;go_enter Tryz.func123,Tryz.ntmps123;go_wp2_with fail;refine wp_loop_rounds 1 ?_;rw[rounds_succ];go_wp2_with fail;exact bodyPost_ret (v:= .agg #[.int .i64 1,.int .i64 n,.slice none 0 0]) (by simp[results,Tryz.results123,go_sem]) rfl ⟨_,rfl,Made.leaf _ _ _ _ _,((((xr w).alloc _).alloc _).alloc _).alloc _⟩
 |false=>
  have hk1:k≠1:=by simpa using d1
  rw[hres,if_neg (fun h=> hk1 h.1),if_neg (fun h=> hk1 h.1)];clear hres HUX;go_enter Tryz.func123,Tryz.ntmps123;go_wp2_with fail;obtain⟨w1,hw1⟩: ∃w1,w1=((w.alloc (.cells #[.int .i64 k,.int .i64 n,.slice A ks.length cap] 25)).alloc (.cells #[.int .i64 ku,.int .i64 nu,.slice Au kus.length cu] 25)).alloc (.cells #[.int .i64 0,.int .i64 0,.slice none 0 0] 25):=⟨_,rfl⟩;obtain⟨W,hW⟩: ∃W,W=w1.alloc (.cells #[.int .i64 k,.int .i64 n,.slice none 0 0] 25):=⟨_,rfl⟩;have hs1:w1.heap.size=w.heap.size+1+1+1:=by rw[hw1];simp
  have hsW:W.heap.size=w.heap.size+4:=by rw[hW];simp;omega
  have hE1:Ext w w1:=hw1▸(((xr w).alloc _).alloc _).alloc _;have hEW:Ext w1 W:=hW▸(xr w1).alloc _;have hbR:w1.heap[w.heap.size+1+1]? =some (.cells #[.int .i64 0,.int .i64 0,.slice none 0 0] 25 (0,0)):=by
   rw[hw1];exact(blk3 (xr _)).2.2.1
  have hbO:W.heap[w.heap.size+1+1+1]? =some (.cells #[.int .i64 k,.int .i64 n,.slice none 0 0] 25 (0,0)):=by
   have:=heap_alloc_new w1 (.cells #[.int .i64 k,.int .i64 n,.slice none 0 0] 25);rw[hs1] at this;rw[hW];exact this
  have hbT:w1.heap[w.heap.size]? =some (.cells #[.int .i64 k,.int .i64 n,.slice A ks.length cap] 25 (0,0)):=by
   rw[hw1];exact(blk3 (xr _)).1
  have hbU:w1.heap[w.heap.size+1]? =some (.cells #[.int .i64 ku,.int .i64 nu,.slice Au kus.length cu] 25 (0,0)):=by
   rw[hw1];exact(blk3 (xr _)).2.1
  rw[<-hw1,<-hW];clear hW hw1
  go_loopw [10,11] (fun i _ wr=> ∃(j:Nat) (v:Value),j<=ks.length/\i= .int .i64 j/\wr.heap[w.heap.size+1+1+1]? =some (.cells #[.int .i64 k,.int .i64 n,v] 25 (0,0))/\Grow W wr 25 v (rs.take j)/\Ext w1 wr/\W.heap.size<=wr.heap.size) (fun i _ _=> ks.length -(intOf i).toNat)
  case atStart=> exact⟨0,_,Nat.zero_le _,rfl,hbO,Grow.nil _ _ _,hEW,Nat.le_refl _⟩
  case round=>
   obtain⟨j,v,hj,rfl,hbv,hG,he,hle⟩:=hrel;by_cases hlt:j < ks.length
   · obtain⟨b,o,k',n',A',cap',kids,rfl,HK,c0,c1,c2,hkl,hkc,hK',hin',hmem⟩:=hK.get (hE1.trans he) hlt
     have htk:=y75 (l:=rs) (j:=j) (by omega) (HGET.out j hlt);rw[HK.out] at htk;have hub:=j44 k j;have hskj:=hsk _ hmem;have hj2:(j:Int) <(ks.length:Int):=by omega
     obtain⟨uu,hu⟩: ∃u,u=und k j:=⟨_,rfl⟩;have HU:=hdq (fun W=> y68 k j W);rw[<-hu] at HU hub htk;have HTK:=hdq htk;have HWR:=hdq (IntWalk.i64_in (x+uu) ⟨by omega,by omega⟩);have HWS:=hdq (IntWalk.i64_in (dp+uu) ⟨by omega,by omega⟩);clear hu htk;have hcm:=y14 hmem;have hlen:(rs.take j).length < 1099511627776:=by rw[List.length_take];omega
     have hlj:(rs.take j).length=j:=by rw[List.length_take];omega
     have HL:=hdq hlj;have hbT2:=he.blk hbT;obtain⟨t0,-,t2,-,-,-⟩:=own3 hbT2;obtain⟨u0,u1,u2,-,-,-⟩:=own3 (he.blk hbU);have hj':(j:Int) <(ks.length:Int):=by omega
     go_wp2_with fail;refine(HU.out _).mono ?_;rintro e wu ⟨rfl,rfl⟩;go_wp2_with fail;have hle2:=hle;have hG2:=hG;have hbv2:=hbv;have hv:=y10 hbv2 2;have hcells: ∀w',Below W.heap.size wr w'->w'.heap[w.heap.size+1+1+1]? =some (.cells #[.int .i64 k,.int .i64 n,v] 25 (0,0)):=fun w' hB=>(hB.block (w.heap.size+1+1+1) (by omega)).trans hbv2
     have HCells:=hdq hcells;have hEd:Ext wr wr.drew:=(xr wr).drew;have hinD:=hin'.ext hEd;have he2:=he;have hbw:=hK.lt hlt;have HS:=hdq (show∀w',Below (w.heap.size+1+1) wr w'->w'.cell? ⟨w.heap.size,2,none⟩=some (.slice (some ⟨b,o,none⟩) ks.length cap)/\w'.cell? ⟨w.heap.size+1,0,none⟩=some (.int .i64 ku)/\w'.cell? ⟨w.heap.size+1,1,none⟩=some (.int .i64 nu)/\w'.cell? ⟨w.heap.size+1,2,none⟩=some (.slice Au kus.length cu)/\w'.cell? ⟨b,o+j*3,none⟩=some (.int .i64 k')/\w'.cell? ⟨b,o+j*3+1,none⟩=some (.int .i64 n')/\w'.cell? ⟨b,o+j*3+2,none⟩=some (.slice A' kids.length cap') from fun w' hw'=>
      ⟨(hw'.cell (p:=⟨w.heap.size,2,none⟩) (by show w.heap.size < _;omega)).trans t2,(hw'.cell (p:=⟨w.heap.size+1,0,none⟩) (by show w.heap.size+1 < _;omega)).trans u0,(hw'.cell (p:=⟨w.heap.size+1,1,none⟩) (by show w.heap.size+1 < _;omega)).trans u1,(hw'.cell (p:=⟨w.heap.size+1,2,none⟩) (by show w.heap.size+1 < _;omega)).trans u2,(hw'.cell (p:=⟨b,o+j*3,none⟩) (by show b < _;omega)).trans c0,(hw'.cell (p:=⟨b,o+j*3+1,none⟩) (by show b < _;omega)).trans c1,(hw'.cell (p:=⟨b,o+j*3+2,none⟩) (by show b < _;omega)).trans c2⟩)
     have hBd:Below (w.heap.size+1+1) wr wr.drew:=(Below.refl _ _).drew;clear hcells hlj hbv hG he hle hcc;rw[show Op.load 23 (Operand.tmp 53)=ldO 23 53 from rfl]
     go_region_held_law (fun w'=> w'.cell? ⟨w.heap.size,2,none⟩=some (.slice (some ⟨b,o,none⟩) ks.length cap)/\w'.cell? ⟨w.heap.size+1,0,none⟩=some (.int .i64 ku)/\w'.cell? ⟨w.heap.size+1,1,none⟩=some (.int .i64 nu)/\w'.cell? ⟨w.heap.size+1,2,none⟩=some (.slice Au kus.length cu)/\w'.cell? ⟨b,o+j*3,none⟩=some (.int .i64 k')/\w'.cell? ⟨b,o+j*3+1,none⟩=some (.int .i64 n')/\w'.cell? ⟨b,o+j*3+2,none⟩=some (.slice A' kids.length cap'))
      (first|exact HS.out _ ((hBe.setCell (by show _<=w.heap.size+1+1+1;omega) _)) |exact HS.out _ hBe|exact HS.out _ (hBc.alloc (by omega) _) |exact HS.out _ hBc|exact HS.out _ hBd)
      (first|(go_simp;go_at_call 123;(try rw[HWR.out]);(try rw[HWS.out]);refine(HKK.out _ hmem _ _ (x+uu) (dp+uu) hinD (by omega) (by omega) (by omega) (by omega) (by omega) ((hE1.trans he2).trans hEd)).mono ?_;rintro e w4 ⟨u,rfl,hM,h4⟩;obtain⟨a1,a2,a3,a4,a5,rfl⟩:=hM.three';have hv4:=y10 (HCells.out _ ((hEd.trans h4).below hle2)) 2;have hs4:=World.block_lt_of_cell? _ _ hv4;have hBc:Below (w.heap.size+1+1) wr w4:=((hEd.trans h4).below hle2).mono (by omega)) |(refine y24 _ (by rfl) (.tmp 54) (.tmp 68) _ (by rfl) 25 i0 _ Tryz.underlying23 hi hz0 hz1 hz2 rfl (by rfl) hG2 hle2 (hEd.trans h4) (hM.since (Nat.le_refl _)) ((xr _).alloc _) (by rfl) (heap_alloc_new _ _) hlen ?_;intro v' w5 hG5 hB5;obtain⟨B5,c5,rfl,q1,q2,-⟩:=hG5.made;have hv5:=y10 (HCells.out _ hB5) 2;have hf5:=q12 (HCells.out _ hB5) 2;have hBe:Below (w.heap.size+1+1) wr w5:=hB5.mono (by omega)))
     all_goals(
      have hE5:Ext w1 w5:=he2.trans' hB5 (by omega);have hs5:=hB5.size;have hb6:=HCells.out _ hB5;rw[List.length_append,List.length_singleton,HL.out,HTK.out] at hG5;have hGs:=fun u=> hG5.after ((q23.refl W.heap.size w5).setCell (p:=⟨w.heap.size+1+1+1,2,none⟩) (by show w.heap.size+1+1+1 < W.heap.size;omega) u)
      clear hv4 hs4 hv HCells hM h4 c0 c1 c2 t2 t0 u0 u1 u2;go_wp2_with fail
      go_roundw
      case rel=> exact⟨j+1,_,by omega,by go_num,q11 hb6 2 _,hGs _,hE5.setCell (by show _<=w.heap.size+1+1+1;omega) _,by simp;omega⟩
      case measure=> simp[intOf];omega)
   · obtain⟨B5,c5,rfl,q1,q2,hMK⟩:=hG.made
     have hjl:j=ks.length:=by omega
     have hrj:rs.take j=rs:=List.take_of_length_le (by omega);obtain⟨r0,r1,r2,-,-,-⟩:=own3 hbv;have hbT2:=he.blk hbT;obtain⟨-,-,t2,-,-,-⟩:=own3 hbT2;have hbR':=he.blk hbR;obtain⟨s0,s1,s2,f0,f1,f2⟩:=own3 hbR';rw[hrj] at q1 r2 hMK;clear hbv;go_wp2_with fail;refine bodyPost_ret (v:= .agg #[.int .i64 k,.int .i64 n,.slice B5 rs.length c5]) (by simp[results,Tryz.results123,go_sem,s0,s1,s2,hrl]) rfl ⟨_,rfl, ?_, ?_⟩
     · exact Made.since (Made.after (Made.mk q1 q2 hMK) ((((q23.refl _ _).setCell (by show w.heap.size+1+1 < _;omega) _).setCell (by show w.heap.size+1+1 < _;omega) _).setCell (by show w.heap.size+1+1 < _;omega) _)) (by omega)
     · exact((((hE1.trans he).setCell (by simp <;> omega) _).setCell (by simp <;> omega) _).setCell (by simp <;> omega) _)
end Go.Proofs.YtdkamgafpphdjaaGreat
