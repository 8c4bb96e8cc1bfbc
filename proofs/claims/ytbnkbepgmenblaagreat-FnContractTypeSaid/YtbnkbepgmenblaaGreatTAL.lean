/-
  Lemmas towards the law, 12: MEnc, Redex, Parse4, Box, OrdT, Places.
-/
import Derived.Test.YtbnkbepgmenblaaGreatTAA
import Derived.Test.YtbnkbepgmenblaaGreatTAK
import Derived.Lib.SliceRun
set_option linter.unusedVariables false
set_option maxHeartbeats 1000000
set_option maxRecDepth 100000
namespace Go.Proofs.YtbnkbepgmenblaaGreat
def enc:M.Tm->Tr
 | .var n=> .mk 1 n []
 | .sort n=> .mk 2 n []
 | .pi A B=> .mk 3 0 [enc A,enc B]
 | .lam A t=> .mk 4 0 [enc A,enc t]
 | .app f a=> .mk 5 0 [enc f,enc a]
 | .nat=> .mk 6 0 []
 | .zero=> .mk 7 0 []
 | .succ a=> .mk 8 0 [enc a]
 | .elim p z s a=> .mk 9 0 [enc p,enc z,enc s,enc a]
 | .id T a b=> .mk 10 0 [enc T,enc a,enc b]
 | .refl a=> .mk 11 0 [enc a]
 | .move p e a=> .mk 12 0 [enc p,enc e,enc a]
 | .sg A B=> .mk 13 0 [enc A,enc B]
 | .pair T a b=> .mk 14 0 [enc T,enc a,enc b]
 | .fst a=> .mk 15 0 [enc a]
 | .snd a=> .mk 16 0 [enc a]
def shr(y c n:Nat):Nat:=if c<=n then n+y else n
theorem j186(y c:Nat):M.Tm.upr (shr y c)=shr y (c+1):=by
 funext n
 cases n with
 |zero=> simp[M.Tm.upr,shr]
 |succ n=>
  show shr y c n+1=_
  unfold shr;by_cases h:c<=n
  · rw[if_pos h,if_pos (by omega)];omega
  · rw[if_neg h,if_neg (by omega)]
theorem y129(y:Nat): ∀(t:M.Tm) (c:Nat),shfT (y:Int) (enc t) (c:Int)=enc (t.ren (shr y c)):=by
 have u0: ∀(k:Int) (c:Nat),(c:Int)+und k 0=(c:Int):=fun k c=> by simp[und]
 intro t
 induction t with
 |var n=>
  intro c;simp only[enc,M.Tm.ren,shfT,j20,shr];by_cases h:c<=n
  · rw[if_pos ⟨trivial,by omega⟩,if_pos h];congr 1
  · rw[if_neg (fun e=> h (by omega)),if_neg h]
 |pi A B i1 i2=>
  intro c;simp only[enc,M.Tm.ren,shfT,j20,u0,i1,j186];rw[show(c:Int)+und 3 (0+1)=((c+1:Nat):Int) from rfl,i2]
  rfl
 |lam A B i1 i2=>
  intro c;simp only[enc,M.Tm.ren,shfT,j20,u0,i1,j186];rw[show(c:Int)+und 4 (0+1)=((c+1:Nat):Int) from rfl,i2]
  rfl
 |sg A B i1 i2=>
  intro c;simp only[enc,M.Tm.ren,shfT,j20,u0,i1,j186];rw[show(c:Int)+und 13 (0+1)=((c+1:Nat):Int) from rfl,i2]
  rfl
 |_=> intro c;simp_all [enc,M.Tm.ren,shfT,j20,und]
def sbk(u:M.Tm)(k n:Nat):M.Tm:=if n=k then u.ren (fun i=> i+k) else if k < n then .var (n - 1) else .var n
theorem y221(u:M.Tm):sbk u 0=M.Tm.cns u M.Tm.var:=by
 funext n
 cases n with
 |zero=> simp[sbk,M.Tm.cns,M.Tm.ren_id]
 |succ n=> simp[sbk,M.Tm.cns]
theorem y175(u:M.Tm)(k:Nat):M.Tm.ups (sbk u k)=sbk u (k+1):=by
 funext n
 cases n with
 |zero=> simp[M.Tm.ups,sbk]
 |succ n=>
  show M.Tm.wk (sbk u k n)=sbk u (k+1) (n+1)
  by_cases h:n=k
  · have e1:sbk u k n=u.ren (fun i=> i+k):=if_pos h
    have e2:sbk u (k+1) (n+1)=u.ren (fun i=> i+(k+1)):=if_pos (by omega);rw[e1,e2,M.Tm.wk,M.Tm.ren_ren];rfl
  · by_cases h2:k < n
    · have e1:sbk u k n= .var (n - 1):=by unfold sbk;rw[if_neg h,if_pos h2]
      have e2:sbk u (k+1) (n+1)= .var n:=by unfold sbk;rw[if_neg (by omega),if_pos (by omega)];rfl
      rw[e1,e2]
      show M.Tm.var (n - 1+1)=_
      congr 1
      omega
    · have e1:sbk u k n= .var n:=by unfold sbk;rw[if_neg h,if_neg h2]
      have e2:sbk u (k+1) (n+1)= .var (n+1):=by unfold sbk;rw[if_neg (by omega),if_neg (by omega)]
      rw[e1,e2];rfl
theorem q126(k:Nat):shr k 0=fun i=> i+k:=by funext i;simp[shr]
theorem enc_sbs(u:M.Tm): ∀(t:M.Tm) (k:Nat),sbsT (enc u) (enc t) (k:Int) (k:Int)=enc (t.sub (sbk u k)):=by
 have u0: ∀(k:Int) (c:Nat),(c:Int)+und k 0=(c:Int):=fun k c=> by simp[und]
 intro t
 induction t with
 |var n=>
  intro k;simp only[enc,M.Tm.sub,sbsT,q21,sbk];by_cases h:n=k
  · rw[if_pos ⟨trivial,by omega⟩,if_pos h,<-q126]
    exact y129 k u 0
  · rw[if_neg (fun e=> h (by omega)),if_neg h]
    by_cases h2:k < n
    · rw[if_pos ⟨trivial,by omega⟩,if_pos h2]
      simp only[enc]
      congr 1
      omega
    · rw[if_neg (fun e=> h2 (by omega)),if_neg h2];rfl
 |pi A B i1 i2=>
  intro c;simp only[enc,M.Tm.sub,sbsT,q21,u0,i1,y175];rw[show(c:Int)+und 3 (0+1)=((c+1:Nat):Int) from rfl,i2]
  rfl
 |lam A B i1 i2=>
  intro c;simp only[enc,M.Tm.sub,sbsT,q21,u0,i1,y175];rw[show(c:Int)+und 4 (0+1)=((c+1:Nat):Int) from rfl,i2]
  rfl
 |sg A B i1 i2=>
  intro c;simp only[enc,M.Tm.sub,sbsT,q21,u0,i1,y175];rw[show(c:Int)+und 13 (0+1)=((c+1:Nat):Int) from rfl,i2]
  rfl
 |_=> intro c;simp_all [enc,M.Tm.sub,sbsT,q21,und]
theorem y53(t u:M.Tm):sbsT (enc u) (enc t) 0 0=enc (t.inst u):=by
 have:=enc_sbs u t 0;rw[y221] at this;exact this
theorem q175: ∀{t u:M.Tm},enc t=enc u->t=u:=by
 intro t
 induction t <;> intro u h <;> cases u <;> simp[enc] at h⊢ <;> first|omega|(obtain⟨h1,h2,h3,h4⟩:=h;refine⟨?_, ?_, ?_, ?_⟩ <;> solve_by_elim) |(obtain⟨h1,h2,h3⟩:=h;refine⟨?_, ?_, ?_⟩ <;> solve_by_elim) |(obtain⟨h1,h2⟩:=h;refine⟨?_, ?_⟩ <;> solve_by_elim) |solve_by_elim
theorem enc_of: ∀(t:Tr) (d:Int),shape sigT t d=true-> ∃m,enc m=t:=Tr.ind fun k n ks ih=> by
 intro d h;obtain⟨j8,ah,az,p9⟩:=j12 h;have Tk:opsT k=(ks.length:Int):=j8;have O6:n<=q33 k:=az;have I6: ∀t∈ks,∃m,enc m=t:=fun t ht=> ih t ht _ (p9 t ht)
 have hz:k≠1->k≠2->n=0:=fun a b=> by unfold q33 at O6;rw[if_neg a,if_neg b] at O6;omega
 rcases j181 Tk with rfl|rfl|rfl|rfl|rfl|rfl|rfl|rfl|rfl|rfl|rfl|rfl|rfl|rfl|rfl|rfl
 · have:ks= []:=List.eq_nil_of_length_eq_zero (by have:opsT 1=0:=rfl;omega)
   subst this;exact⟨.var n.toNat,by unfold enc;congr 1;omega⟩
 · have:ks= []:=List.eq_nil_of_length_eq_zero (by have:opsT 2=0:=rfl;omega)
   subst this;exact⟨.sort n.toNat,by unfold enc;congr 1;omega⟩
 · obtain rfl:=hz (by decide) (by decide)
   match ks,(show ks.length=2 by have:opsT 3=2:=rfl;omega),I6 with
   | [x,y],_,I6=>
    obtain⟨a,rfl⟩:=I6 x (by simp);obtain⟨b,rfl⟩:=I6 y (by simp);exact⟨.pi a b,rfl⟩
 · obtain rfl:=hz (by decide) (by decide)
   match ks,(show ks.length=2 by have:opsT 4=2:=rfl;omega),I6 with
   | [x,y],_,I6=>
    obtain⟨a,rfl⟩:=I6 x (by simp);obtain⟨b,rfl⟩:=I6 y (by simp);exact⟨.lam a b,rfl⟩
 · obtain rfl:=hz (by decide) (by decide)
   match ks,(show ks.length=2 by have:opsT 5=2:=rfl;omega),I6 with
   | [x,y],_,I6=>
    obtain⟨a,rfl⟩:=I6 x (by simp);obtain⟨b,rfl⟩:=I6 y (by simp);exact⟨.app a b,rfl⟩
 · obtain rfl:=hz (by decide) (by decide)
   match ks,(show ks.length=0 by have:opsT 6=0:=rfl;omega),I6 with
   | [],_,I6=>
    exact⟨.nat,rfl⟩
 · obtain rfl:=hz (by decide) (by decide)
   match ks,(show ks.length=0 by have:opsT 7=0:=rfl;omega),I6 with
   | [],_,I6=>
    exact⟨.zero,rfl⟩
 · obtain rfl:=hz (by decide) (by decide)
   match ks,(show ks.length=1 by have:opsT 8=1:=rfl;omega),I6 with
   | [x],_,I6=>
    obtain⟨a,rfl⟩:=I6 x (by simp);exact⟨.succ a,rfl⟩
 · obtain rfl:=hz (by decide) (by decide)
   match ks,(show ks.length=4 by have:opsT 9=4:=rfl;omega),I6 with
   | [x,y,u,v],_,I6=>
    obtain⟨a,rfl⟩:=I6 x (by simp);obtain⟨b,rfl⟩:=I6 y (by simp);obtain⟨c,rfl⟩:=I6 u (by simp);obtain⟨d,rfl⟩:=I6 v (by simp);exact⟨.elim a b c d,rfl⟩
 · obtain rfl:=hz (by decide) (by decide)
   match ks,(show ks.length=3 by have:opsT 10=3:=rfl;omega),I6 with
   | [x,y,u],_,I6=>
    obtain⟨a,rfl⟩:=I6 x (by simp);obtain⟨b,rfl⟩:=I6 y (by simp);obtain⟨c,rfl⟩:=I6 u (by simp);exact⟨.id a b c,rfl⟩
 · obtain rfl:=hz (by decide) (by decide)
   match ks,(show ks.length=1 by have:opsT 11=1:=rfl;omega),I6 with
   | [x],_,I6=>
    obtain⟨a,rfl⟩:=I6 x (by simp);exact⟨.refl a,rfl⟩
 · obtain rfl:=hz (by decide) (by decide)
   match ks,(show ks.length=3 by have:opsT 12=3:=rfl;omega),I6 with
   | [x,y,u],_,I6=>
    obtain⟨a,rfl⟩:=I6 x (by simp);obtain⟨b,rfl⟩:=I6 y (by simp);obtain⟨c,rfl⟩:=I6 u (by simp);exact⟨.move a b c,rfl⟩
 · obtain rfl:=hz (by decide) (by decide)
   match ks,(show ks.length=2 by have:opsT 13=2:=rfl;omega),I6 with
   | [x,y],_,I6=>
    obtain⟨a,rfl⟩:=I6 x (by simp);obtain⟨b,rfl⟩:=I6 y (by simp);exact⟨.sg a b,rfl⟩
 · obtain rfl:=hz (by decide) (by decide)
   match ks,(show ks.length=3 by have:opsT 14=3:=rfl;omega),I6 with
   | [x,y,u],_,I6=>
    obtain⟨a,rfl⟩:=I6 x (by simp);obtain⟨b,rfl⟩:=I6 y (by simp);obtain⟨c,rfl⟩:=I6 u (by simp);exact⟨.pair a b c,rfl⟩
 · obtain rfl:=hz (by decide) (by decide)
   match ks,(show ks.length=1 by have:opsT 15=1:=rfl;omega),I6 with
   | [x],_,I6=>
    obtain⟨a,rfl⟩:=I6 x (by simp);exact⟨.fst a,rfl⟩
 · obtain rfl:=hz (by decide) (by decide)
   match ks,(show ks.length=1 by have:opsT 16=1:=rfl;omega),I6 with
   | [x],_,I6=>
    obtain⟨a,rfl⟩:=I6 x (by simp);exact⟨.snd a,rfl⟩
theorem enc_par{t t':M.Tm}(h:M.Par t t'):Par (enc t) (enc t'):=by
 induction h with
 |var n=> exact Par.refl _
 |sort n=> exact Par.refl _
 |nat=> exact Par.refl _
 |zero=> exact Par.refl _
 | @beta A b b' a a' h1 h2 i1 i2=>
  have h:=Par.red (k:=5) (n:=0) (ks:= [enc (.lam A b),enc a]) (by simp[rdx,kd,Tr.kind,enc]) (.cons (.node (k:=4) (n:=0) (.cons (Par.refl (enc A)) (.cons i1 .nil))) (.cons i2 .nil));rw[<-y53];exact h
 | @ez p z z' s h i=> exact Par.red (k:=9) (n:=0) (ks:= [enc p,enc z,enc s,enc .zero]) (by simp[rdx,kd,Tr.kind,enc]) (.cons (Par.refl _) (.cons i (.cons (Par.refl _) (.cons (Par.refl _) .nil))))
 | @es p p' z z' s s' a a' h1 h2 h3 h4 i1 i2 i3 i4=> exact Par.red (k:=9) (n:=0) (ks:= [enc p,enc z,enc s,enc (.succ a)]) (by simp[rdx,kd,Tr.kind,enc]) (.cons i1 (.cons i2 (.cons i3 (.cons (.node (k:=8) (n:=0) (.cons i4 .nil)) .nil))))
 | @mr p b a a' h i=> exact Par.red (k:=12) (n:=0) (ks:= [enc p,enc (.refl b),enc a]) (by simp[rdx,kd,Tr.kind,enc]) (.cons (Par.refl _) (.cons (Par.refl _) (.cons i .nil)))
 | @fp T a a' b h i=> exact Par.red (k:=15) (n:=0) (ks:= [enc (.pair T a b)]) (by simp[rdx,kd,Tr.kind,enc]) (.cons (.node (k:=14) (n:=0) (.cons (Par.refl _) (.cons i (.cons (Par.refl _) .nil)))) .nil)
 | @sp T a b b' h i=> exact Par.red (k:=16) (n:=0) (ks:= [enc (.pair T a b)]) (by simp[rdx,kd,Tr.kind,enc]) (.cons (.node (k:=14) (n:=0) (.cons (Par.refl _) (.cons (Par.refl _) (.cons i .nil)))) .nil)
 |elim h1 h2 h3 h4 i1 i2 i3 i4=> exact .node (.cons i1 (.cons i2 (.cons i3 (.cons i4 .nil))))
 |pi h1 h2 i1 i2=> exact .node (.cons i1 (.cons i2 .nil))
 |lam h1 h2 i1 i2=> exact .node (.cons i1 (.cons i2 .nil))
 |app h1 h2 i1 i2=> exact .node (.cons i1 (.cons i2 .nil))
 |sg h1 h2 i1 i2=> exact .node (.cons i1 (.cons i2 .nil))
 |id h1 h2 h3 i1 i2 i3=> exact .node (.cons i1 (.cons i2 (.cons i3 .nil)))
 |move h1 h2 h3 i1 i2 i3=> exact .node (.cons i1 (.cons i2 (.cons i3 .nil)))
 |pair h1 h2 h3 i1 i2 i3=> exact .node (.cons i1 (.cons i2 (.cons i3 .nil)))
 |succ h i=> exact .node (.cons i .nil)
 |refl h i=> exact .node (.cons i .nil)
 |fst h i=> exact .node (.cons i .nil)
 |snd h i=> exact .node (.cons i .nil)
theorem q171{t t':M.Tm}(h:M.Red t t'):Reds (enc t) (enc t'):=by
 induction h with
 |refl=> exact .refl _
 |step h1 _ ih=> exact(Reds.one (enc_par h1)).trans ih
theorem j195: ∀{t:M.Tm} {t':Tr},Par (enc t) t'-> ∃m,t'=enc m/\M.Par t m:=by
 have no: ∀{k:Int} {ks:List Tr},rdx k ks≠0->k=5\/k=9\/k=12\/k=15\/k=16:=by
  intro k ks h;by_cases h5:k=5
  · exact .inl h5
  by_cases h9:k=9
  · exact .inr (.inl h9)
  by_cases ck:k=12
  · exact .inr (.inr (.inl ck))
  by_cases gg:k=15
  · exact .inr (.inr (.inr (.inl gg)))
  by_cases F8:k=16
  · exact .inr (.inr (.inr (.inr F8)))
  exact absurd (y98 h5 h9 ck gg F8) h
 intro t
 induction t with
 |var n=> intro t' h;cases h with
  |node h=> cases h;exact⟨.var n,rfl,.var n⟩
  |red h=> exact absurd (no h) (by decide)
 |sort n=> intro t' h;cases h with
  |node h=> cases h;exact⟨.sort n,rfl,.sort n⟩
  |red h=> exact absurd (no h) (by decide)
 |nat=> intro t' h;cases h with
  |node h=> cases h;exact⟨.nat,rfl,.nat⟩
  |red h=> exact absurd (no h) (by decide)
 |zero=> intro t' h;cases h with
  |node h=> cases h;exact⟨.zero,rfl,.zero⟩
  |red h=> exact absurd (no h) (by decide)
 |pi A B i1 i2=> intro t' h;cases h with
  |node h=>
   cases h with
   |cons h1 h=>
   cases h with
   |cons h2 h=>
   cases h
   obtain⟨a,rfl,k1⟩:=i1 h1;obtain⟨b,rfl,k2⟩:=i2 h2;exact⟨.pi a b,rfl,.pi k1 k2⟩
  |red h=> exact absurd (no h) (by decide)
 |lam A B i1 i2=> intro t' h;cases h with
  |node h=>
   cases h with
   |cons h1 h=>
   cases h with
   |cons h2 h=>
   cases h
   obtain⟨a,rfl,k1⟩:=i1 h1;obtain⟨b,rfl,k2⟩:=i2 h2;exact⟨.lam a b,rfl,.lam k1 k2⟩
  |red h=> exact absurd (no h) (by decide)
 |sg A B i1 i2=> intro t' h;cases h with
  |node h=>
   cases h with
   |cons h1 h=>
   cases h with
   |cons h2 h=>
   cases h
   obtain⟨a,rfl,k1⟩:=i1 h1;obtain⟨b,rfl,k2⟩:=i2 h2;exact⟨.sg a b,rfl,.sg k1 k2⟩
  |red h=> exact absurd (no h) (by decide)
 |id A B D i1 i2 i3=> intro t' h;cases h with
  |node h=>
   cases h with
   |cons h1 h=>
   cases h with
   |cons h2 h=>
   cases h with
   |cons h3 h=>
   cases h
   obtain⟨a,rfl,k1⟩:=i1 h1;obtain⟨b,rfl,k2⟩:=i2 h2;obtain⟨c,rfl,k3⟩:=i3 h3;exact⟨.id a b c,rfl,.id k1 k2 k3⟩
  |red h=> exact absurd (no h) (by decide)
 |pair A B D i1 i2 i3=> intro t' h;cases h with
  |node h=>
   cases h with
   |cons h1 h=>
   cases h with
   |cons h2 h=>
   cases h with
   |cons h3 h=>
   cases h
   obtain⟨a,rfl,k1⟩:=i1 h1;obtain⟨b,rfl,k2⟩:=i2 h2;obtain⟨c,rfl,k3⟩:=i3 h3;exact⟨.pair a b c,rfl,.pair k1 k2 k3⟩
  |red h=> exact absurd (no h) (by decide)
 |succ A i1=> intro t' h;cases h with
  |node h=>
   cases h with
   |cons h1 h=>
   cases h
   obtain⟨a,rfl,k1⟩:=i1 h1;exact⟨.succ a,rfl,.succ k1⟩
  |red h=> exact absurd (no h) (by decide)
 |refl A i1=> intro t' h;cases h with
  |node h=>
   cases h with
   |cons h1 h=>
   cases h
   obtain⟨a,rfl,k1⟩:=i1 h1;exact⟨.refl a,rfl,.refl k1⟩
  |red h=> exact absurd (no h) (by decide)
 |app A B i1 i2=> intro t' h;cases h with
  |node h=>
   cases h with
   |cons h1 h=>
   cases h with
   |cons h2 h=>
   cases h
   obtain⟨a,rfl,k1⟩:=i1 h1;obtain⟨b,rfl,k2⟩:=i2 h2;exact⟨.app a b,rfl,.app k1 k2⟩
  |red hr h=>
   cases h with
   |cons h1 h=>
   cases h with
   |cons h2 h=>
   cases h
   obtain⟨a,rfl,k1⟩:=i1 h1;obtain⟨b,rfl,k2⟩:=i2 h2;cases A <;> simp[rdx,kd,Tr.kind,enc] at hr
   cases k1 with
   |lam l1 l2=> exact⟨_,by show sbsT (enc b) (enc _) 0 0=_;exact y53 _ _,.beta l2 k2⟩
 |fst A i1=> intro t' h;cases h with
  |node h=>
   cases h with
   |cons h1 h=>
   cases h
   obtain⟨a,rfl,k1⟩:=i1 h1;exact⟨.fst a,rfl,.fst k1⟩
  |red hr h=>
   cases h with
   |cons h1 h=>
   cases h
   obtain⟨a,rfl,k1⟩:=i1 h1;cases A <;> simp[rdx,kd,Tr.kind,enc] at hr
   cases k1 with
   |pair l1 l2 l3=> exact⟨_,rfl,.fp l2⟩
 |snd A i1=> intro t' h;cases h with
  |node h=>
   cases h with
   |cons h1 h=>
   cases h
   obtain⟨a,rfl,k1⟩:=i1 h1;exact⟨.snd a,rfl,.snd k1⟩
  |red hr h=>
   cases h with
   |cons h1 h=>
   cases h
   obtain⟨a,rfl,k1⟩:=i1 h1;cases A <;> simp[rdx,kd,Tr.kind,enc] at hr
   cases k1 with
   |pair l1 l2 l3=> exact⟨_,rfl,.sp l3⟩
 |move A B D i1 i2 i3=> intro t' h;cases h with
  |node h=>
   cases h with
   |cons h1 h=>
   cases h with
   |cons h2 h=>
   cases h with
   |cons h3 h=>
   cases h
   obtain⟨a,rfl,k1⟩:=i1 h1;obtain⟨b,rfl,k2⟩:=i2 h2;obtain⟨c,rfl,k3⟩:=i3 h3;exact⟨.move a b c,rfl,.move k1 k2 k3⟩
  |red hr h=>
   cases h with
   |cons h1 h=>
   cases h with
   |cons h2 h=>
   cases h with
   |cons h3 h=>
   cases h
   obtain⟨c,rfl,k3⟩:=i3 h3;cases B <;> simp[rdx,kd,Tr.kind,enc] at hr
   exact⟨c,rfl,.mr k3⟩
 |elim A B D E i1 i2 i3 i4=> intro t' h;cases h with
  |node h=>
   cases h with
   |cons h1 h=>
   cases h with
   |cons h2 h=>
   cases h with
   |cons h3 h=>
   cases h with
   |cons h4 h=>
   cases h
   obtain⟨a,rfl,k1⟩:=i1 h1;obtain⟨b,rfl,k2⟩:=i2 h2;obtain⟨c,rfl,k3⟩:=i3 h3;obtain⟨d,rfl,k4⟩:=i4 h4;exact⟨.elim a b c d,rfl,.elim k1 k2 k3 k4⟩
  |red hr h=>
   cases h with
   |cons h1 h=>
   cases h with
   |cons h2 h=>
   cases h with
   |cons h3 h=>
   cases h with
   |cons h4 h=>
   cases h
   obtain⟨a,rfl,k1⟩:=i1 h1;obtain⟨b,rfl,k2⟩:=i2 h2;obtain⟨c,rfl,k3⟩:=i3 h3;obtain⟨d,rfl,k4⟩:=i4 h4;cases E <;> simp[rdx,kd,Tr.kind,enc] at hr
   · cases k4
     exact⟨b,rfl,.ez k2⟩
   · cases k4 with
     |succ k5=> exact⟨_,rfl,.es k1 k2 k3 k5⟩
theorem q203{t' u:Tr}(h:Reds u t'): ∀{t:M.Tm},u=enc t-> ∃m,t'=enc m/\M.Red t m:=by
 induction h with
 |refl=> intro t e;exact⟨t,e,.refl t⟩
 |step h1 h2 ih=>
  intro t e;obtain⟨m,e1,r1⟩:=ih e;subst e1;obtain⟨m2,e2,r2⟩:=j195 h2;exact⟨m2,e2,r1.trans (.one r2)⟩
end Go.Proofs.YtbnkbepgmenblaaGreat
namespace Go.Proofs.YtbnkbepgmenblaaGreat
open Go.RowKit
theorem j200{k n:Int}{ks:List Tr}{d:Int}(h:shape sigT (.mk k n ks) d=true):(opsT k=(ks.length:Int))/\(k=1\/k=2\/k=3\/k=4\/k=5\/k=6\/k=7\/k=8\/k=9\/k=10\/k=11\/k=12\/k=13\/k=14\/k=15\/k=16):=by
 obtain⟨h1,h2,h3,h4⟩:=q25 h;simp only[sigT] at h1;have hr:1<=k/\k<=16:=by
  by_cases h:1<=k/\k<=16
  · exact h
  · exfalso
    unfold opsT at h1;rw[if_neg (by omega),if_neg (by omega),if_neg (by omega),if_neg (by omega),if_neg (by omega),if_neg (by omega),if_neg (by omega),if_neg (by omega),if_neg (by omega),if_neg (by omega),if_neg (by omega),if_neg (by omega),if_neg (by omega),if_neg (by omega),if_neg (by omega),if_neg (by omega)] at h1;omega
 exact⟨h1,by omega⟩
theorem q43{ks:List Tr}{j:Nat}{t:Tr}(hj:j < ks.length)(h:ks[j]=t):kd ks j=t:=by
 unfold kd;rw[List.getD_eq_getElem?_getD,List.getElem?_eq_getElem hj];exact h
theorem j35(t:Tr)(d:Int)(hsh:shape sigT t d=true)(w:World)(v:Value)(j7:Lies w t v):Calls Tryz.prog 51 #[v] w fun e w'=> e= .returned (.int .i64 (rdxT t))/\Ext w w':=by
 obtain⟨k,n,ks⟩:=t;obtain⟨A,cap,rfl,hl,hc,hK⟩:=Lies.mk_iff.1 j7;obtain⟨j8,hk⟩:=j200 hsh;unfold maxLen at hc;clear hsh j7;rcases hk with rfl|rfl|rfl|rfl|rfl|rfl|rfl|rfl|rfl|rfl|rfl|rfl|rfl|rfl|rfl|rfl
 · rw[show rdxT (.mk 1 n ks)=0 from rfl]
   clear j8 hK;go_enter Tryz.func51,Tryz.ntmps51;go_wp2_with fail;go_ret;exact⟨rfl,(xr _).alloc _⟩
 · rw[show rdxT (.mk 2 n ks)=0 from rfl]
   clear j8 hK;go_enter Tryz.func51,Tryz.ntmps51;go_wp2_with fail;go_ret;exact⟨rfl,(xr _).alloc _⟩
 · rw[show rdxT (.mk 3 n ks)=0 from rfl]
   clear j8 hK;go_enter Tryz.func51,Tryz.ntmps51;go_wp2_with fail;go_ret;exact⟨rfl,(xr _).alloc _⟩
 · rw[show rdxT (.mk 4 n ks)=0 from rfl]
   clear j8 hK;go_enter Tryz.func51,Tryz.ntmps51;go_wp2_with fail;go_ret;exact⟨rfl,(xr _).alloc _⟩
 · have hlen:ks.length=2:=by have:(2:Int)=(ks.length:Int):=j8;omega
   have hlt:(0:Int) <(ks.length:Int):=by omega
   obtain⟨b,o,k',n',A',cap',kids,rfl,hid,c0,c1,c2,-,-,-,-,-⟩:=hK.get ((xr w).alloc (.cells #[.int .i64 5,.int .i64 n,.slice A ks.length cap] 25)) (j:=0) (by omega);simp only[Nat.zero_mul,Nat.add_zero] at c0;clear c1 c2;have E7:kd ks 0= .mk k' n' kids:=q43 (by omega) hid.out;have hR:rdxT (.mk 5 n ks)=if k'=4 then 1 else 0:=by show rdx 5 ks=_;unfold rdx;rw[E7];rfl
   rw[hR];clear hR E7 hid j8 hK hlen;by_cases e4:k'=4
   · subst e4
     rw[if_pos rfl];go_enter Tryz.func51,Tryz.ntmps51;go_wp2_with fail;go_ret;exact⟨rfl,(xr _).alloc _⟩
   have d4:(k'==4)=false:=beq_eq_false_iff_ne.2 e4;rw[if_neg e4];go_enter Tryz.func51,Tryz.ntmps51;go_wp2_with fail;go_ret;exact⟨rfl,(xr _).alloc _⟩
 · rw[show rdxT (.mk 6 n ks)=0 from rfl]
   clear j8 hK;go_enter Tryz.func51,Tryz.ntmps51;go_wp2_with fail;go_ret;exact⟨rfl,(xr _).alloc _⟩
 · rw[show rdxT (.mk 7 n ks)=0 from rfl]
   clear j8 hK;go_enter Tryz.func51,Tryz.ntmps51;go_wp2_with fail;go_ret;exact⟨rfl,(xr _).alloc _⟩
 · rw[show rdxT (.mk 8 n ks)=0 from rfl]
   clear j8 hK;go_enter Tryz.func51,Tryz.ntmps51;go_wp2_with fail;go_ret;exact⟨rfl,(xr _).alloc _⟩
 · have hlen:ks.length=4:=by have:(4:Int)=(ks.length:Int):=j8;omega
   have hlt:(3:Int) <(ks.length:Int):=by omega
   obtain⟨b,o,k',n',A',cap',kids,rfl,hid,c0,c1,c2,-,-,-,-,-⟩:=hK.get ((xr w).alloc (.cells #[.int .i64 9,.int .i64 n,.slice A ks.length cap] 25)) (j:=3) (by omega);simp only[Nat.reduceMul] at c0;clear c1 c2;have E7:kd ks 3= .mk k' n' kids:=q43 (by omega) hid.out;have hR:rdxT (.mk 9 n ks)=if k'=7 then 2 else if k'=8 then 3 else 0:=by show rdx 9 ks=_;unfold rdx;rw[E7];rfl
   rw[hR];clear hR E7 hid j8 hK hlen;by_cases e7:k'=7
   · subst e7
     rw[if_pos rfl];go_enter Tryz.func51,Tryz.ntmps51;go_wp2_with fail;go_ret;exact⟨rfl,(xr _).alloc _⟩
   by_cases e8:k'=8
   · subst e8
     rw[if_neg (by decide),if_pos rfl];go_enter Tryz.func51,Tryz.ntmps51;go_wp2_with fail;go_ret;exact⟨rfl,(xr _).alloc _⟩
   have d7:(k'==7)=false:=beq_eq_false_iff_ne.2 e7;have d8:(k'==8)=false:=beq_eq_false_iff_ne.2 e8;rw[if_neg e7,if_neg e8];go_enter Tryz.func51,Tryz.ntmps51;go_wp2_with fail;go_ret;exact⟨rfl,(xr _).alloc _⟩
 · rw[show rdxT (.mk 10 n ks)=0 from rfl]
   clear j8 hK;go_enter Tryz.func51,Tryz.ntmps51;go_wp2_with fail;go_ret;exact⟨rfl,(xr _).alloc _⟩
 · rw[show rdxT (.mk 11 n ks)=0 from rfl]
   clear j8 hK;go_enter Tryz.func51,Tryz.ntmps51;go_wp2_with fail;go_ret;exact⟨rfl,(xr _).alloc _⟩
 · have hlen:ks.length=3:=by have:(3:Int)=(ks.length:Int):=j8;omega
   have hlt:(1:Int) <(ks.length:Int):=by omega
   obtain⟨b,o,k',n',A',cap',kids,rfl,hid,c0,c1,c2,-,-,-,-,-⟩:=hK.get ((xr w).alloc (.cells #[.int .i64 12,.int .i64 n,.slice A ks.length cap] 25)) (j:=1) (by omega);simp only[Nat.reduceMul] at c0;clear c1 c2;have E7:kd ks 1= .mk k' n' kids:=q43 (by omega) hid.out;have hR:rdxT (.mk 12 n ks)=if k'=11 then 4 else 0:=by show rdx 12 ks=_;unfold rdx;rw[E7];rfl
   rw[hR];clear hR E7 hid j8 hK hlen;by_cases e11:k'=11
   · subst e11
     rw[if_pos rfl];go_enter Tryz.func51,Tryz.ntmps51;go_wp2_with fail;go_ret;exact⟨rfl,(xr _).alloc _⟩
   have Sj:(k'==11)=false:=beq_eq_false_iff_ne.2 e11;rw[if_neg e11];go_enter Tryz.func51,Tryz.ntmps51;go_wp2_with fail;go_ret;exact⟨rfl,(xr _).alloc _⟩
 · rw[show rdxT (.mk 13 n ks)=0 from rfl]
   clear j8 hK;go_enter Tryz.func51,Tryz.ntmps51;go_wp2_with fail;go_ret;exact⟨rfl,(xr _).alloc _⟩
 · rw[show rdxT (.mk 14 n ks)=0 from rfl]
   clear j8 hK;go_enter Tryz.func51,Tryz.ntmps51;go_wp2_with fail;go_ret;exact⟨rfl,(xr _).alloc _⟩
 · have hlen:ks.length=1:=by have:(1:Int)=(ks.length:Int):=j8;omega
   have hlt:(0:Int) <(ks.length:Int):=by omega
   obtain⟨b,o,k',n',A',cap',kids,rfl,hid,c0,c1,c2,-,-,-,-,-⟩:=hK.get ((xr w).alloc (.cells #[.int .i64 15,.int .i64 n,.slice A ks.length cap] 25)) (j:=0) (by omega);simp only[Nat.zero_mul,Nat.add_zero] at c0;clear c1 c2;have E7:kd ks 0= .mk k' n' kids:=q43 (by omega) hid.out;have hR:rdxT (.mk 15 n ks)=if k'=14 then 5 else 0:=by show rdx 15 ks=_;unfold rdx;rw[E7];rfl
   rw[hR];clear hR E7 hid j8 hK hlen;by_cases e14:k'=14
   · subst e14
     rw[if_pos rfl];go_enter Tryz.func51,Tryz.ntmps51;go_wp2_with fail;go_ret;exact⟨rfl,(xr _).alloc _⟩
   have d14:(k'==14)=false:=beq_eq_false_iff_ne.2 e14;rw[if_neg e14];go_enter Tryz.func51,Tryz.ntmps51;go_wp2_with fail;go_ret;exact⟨rfl,(xr _).alloc _⟩
 · have hlen:ks.length=1:=by have:(1:Int)=(ks.length:Int):=j8;omega
   have hlt:(0:Int) <(ks.length:Int):=by omega
   obtain⟨b,o,k',n',A',cap',kids,rfl,hid,c0,c1,c2,-,-,-,-,-⟩:=hK.get ((xr w).alloc (.cells #[.int .i64 16,.int .i64 n,.slice A ks.length cap] 25)) (j:=0) (by omega);simp only[Nat.zero_mul,Nat.add_zero] at c0;clear c1 c2;have E7:kd ks 0= .mk k' n' kids:=q43 (by omega) hid.out;have hR:rdxT (.mk 16 n ks)=if k'=14 then 6 else 0:=by show rdx 16 ks=_;unfold rdx;rw[E7];rfl
   rw[hR];clear hR E7 hid j8 hK hlen;by_cases e14:k'=14
   · subst e14
     rw[if_pos rfl];go_enter Tryz.func51,Tryz.ntmps51;go_wp2_with fail;go_ret;exact⟨rfl,(xr _).alloc _⟩
   have d14:(k'==14)=false:=beq_eq_false_iff_ne.2 e14;rw[if_neg e14];go_enter Tryz.func51,Tryz.ntmps51;go_wp2_with fail;go_ret;exact⟨rfl,(xr _).alloc _⟩
theorem q31(t:Tr)(d:Int)(hsh:shape sigT t d=true)(w:World)(v:Value)(j7:Lies w t v):Calls Tryz.prog 54 #[v] w fun e w'=> e= .returned (.int .i64 (rdxT t))/\Ext w w':=by
 obtain⟨k,n,ks⟩:=t;obtain⟨A,cap,rfl,hl,hc,hK⟩:=Lies.mk_iff.1 j7;obtain⟨j8,hk⟩:=j200 hsh;unfold maxLen at hc;clear hsh j7;rcases hk with rfl|rfl|rfl|rfl|rfl|rfl|rfl|rfl|rfl|rfl|rfl|rfl|rfl|rfl|rfl|rfl
 · rw[show rdxT (.mk 1 n ks)=0 from rfl]
   clear j8 hK;go_enter Tryz.func54,Tryz.ntmps54;go_wp2_with fail;go_ret;exact⟨rfl,(xr _).alloc _⟩
 · rw[show rdxT (.mk 2 n ks)=0 from rfl]
   clear j8 hK;go_enter Tryz.func54,Tryz.ntmps54;go_wp2_with fail;go_ret;exact⟨rfl,(xr _).alloc _⟩
 · rw[show rdxT (.mk 3 n ks)=0 from rfl]
   clear j8 hK;go_enter Tryz.func54,Tryz.ntmps54;go_wp2_with fail;go_ret;exact⟨rfl,(xr _).alloc _⟩
 · rw[show rdxT (.mk 4 n ks)=0 from rfl]
   clear j8 hK;go_enter Tryz.func54,Tryz.ntmps54;go_wp2_with fail;go_ret;exact⟨rfl,(xr _).alloc _⟩
 · have hlen:ks.length=2:=by have:(2:Int)=(ks.length:Int):=j8;omega
   have hlt:(0:Int) <(ks.length:Int):=by omega
   obtain⟨b,o,k',n',A',cap',kids,rfl,hid,c0,c1,c2,-,-,-,-,-⟩:=hK.get ((xr w).alloc (.cells #[.int .i64 5,.int .i64 n,.slice A ks.length cap] 25)) (j:=0) (by omega);simp only[Nat.zero_mul,Nat.add_zero] at c0;clear c1 c2;have E7:kd ks 0= .mk k' n' kids:=q43 (by omega) hid.out;have hR:rdxT (.mk 5 n ks)=if k'=4 then 1 else 0:=by show rdx 5 ks=_;unfold rdx;rw[E7];rfl
   rw[hR];clear hR E7 hid j8 hK hlen;by_cases e4:k'=4
   · subst e4
     rw[if_pos rfl];go_enter Tryz.func54,Tryz.ntmps54;go_wp2_with fail;go_ret;exact⟨rfl,(xr _).alloc _⟩
   have d4:(k'==4)=false:=beq_eq_false_iff_ne.2 e4;rw[if_neg e4];go_enter Tryz.func54,Tryz.ntmps54;go_wp2_with fail;go_ret;exact⟨rfl,(xr _).alloc _⟩
 · rw[show rdxT (.mk 6 n ks)=0 from rfl]
   clear j8 hK;go_enter Tryz.func54,Tryz.ntmps54;go_wp2_with fail;go_ret;exact⟨rfl,(xr _).alloc _⟩
 · rw[show rdxT (.mk 7 n ks)=0 from rfl]
   clear j8 hK;go_enter Tryz.func54,Tryz.ntmps54;go_wp2_with fail;go_ret;exact⟨rfl,(xr _).alloc _⟩
 · rw[show rdxT (.mk 8 n ks)=0 from rfl]
   clear j8 hK;go_enter Tryz.func54,Tryz.ntmps54;go_wp2_with fail;go_ret;exact⟨rfl,(xr _).alloc _⟩
 · have hlen:ks.length=4:=by have:(4:Int)=(ks.length:Int):=j8;omega
   have hlt:(3:Int) <(ks.length:Int):=by omega
   obtain⟨b,o,k',n',A',cap',kids,rfl,hid,c0,c1,c2,-,-,-,-,-⟩:=hK.get ((xr w).alloc (.cells #[.int .i64 9,.int .i64 n,.slice A ks.length cap] 25)) (j:=3) (by omega);simp only[Nat.reduceMul] at c0;clear c1 c2;have E7:kd ks 3= .mk k' n' kids:=q43 (by omega) hid.out;have hR:rdxT (.mk 9 n ks)=if k'=7 then 2 else if k'=8 then 3 else 0:=by show rdx 9 ks=_;unfold rdx;rw[E7];rfl
   rw[hR];clear hR E7 hid j8 hK hlen;by_cases e7:k'=7
   · subst e7
     rw[if_pos rfl];go_enter Tryz.func54,Tryz.ntmps54;go_wp2_with fail;go_ret;exact⟨rfl,(xr _).alloc _⟩
   by_cases e8:k'=8
   · subst e8
     rw[if_neg (by decide),if_pos rfl];go_enter Tryz.func54,Tryz.ntmps54;go_wp2_with fail;go_ret;exact⟨rfl,(xr _).alloc _⟩
   have d7:(k'==7)=false:=beq_eq_false_iff_ne.2 e7;have d8:(k'==8)=false:=beq_eq_false_iff_ne.2 e8;rw[if_neg e7,if_neg e8];go_enter Tryz.func54,Tryz.ntmps54;go_wp2_with fail;go_ret;exact⟨rfl,(xr _).alloc _⟩
 · rw[show rdxT (.mk 10 n ks)=0 from rfl]
   clear j8 hK;go_enter Tryz.func54,Tryz.ntmps54;go_wp2_with fail;go_ret;exact⟨rfl,(xr _).alloc _⟩
 · rw[show rdxT (.mk 11 n ks)=0 from rfl]
   clear j8 hK;go_enter Tryz.func54,Tryz.ntmps54;go_wp2_with fail;go_ret;exact⟨rfl,(xr _).alloc _⟩
 · have hlen:ks.length=3:=by have:(3:Int)=(ks.length:Int):=j8;omega
   have hlt:(1:Int) <(ks.length:Int):=by omega
   obtain⟨b,o,k',n',A',cap',kids,rfl,hid,c0,c1,c2,-,-,-,-,-⟩:=hK.get ((xr w).alloc (.cells #[.int .i64 12,.int .i64 n,.slice A ks.length cap] 25)) (j:=1) (by omega);simp only[Nat.reduceMul] at c0;clear c1 c2;have E7:kd ks 1= .mk k' n' kids:=q43 (by omega) hid.out;have hR:rdxT (.mk 12 n ks)=if k'=11 then 4 else 0:=by show rdx 12 ks=_;unfold rdx;rw[E7];rfl
   rw[hR];clear hR E7 hid j8 hK hlen;by_cases e11:k'=11
   · subst e11
     rw[if_pos rfl];go_enter Tryz.func54,Tryz.ntmps54;go_wp2_with fail;go_ret;exact⟨rfl,(xr _).alloc _⟩
   have Sj:(k'==11)=false:=beq_eq_false_iff_ne.2 e11;rw[if_neg e11];go_enter Tryz.func54,Tryz.ntmps54;go_wp2_with fail;go_ret;exact⟨rfl,(xr _).alloc _⟩
 · rw[show rdxT (.mk 13 n ks)=0 from rfl]
   clear j8 hK;go_enter Tryz.func54,Tryz.ntmps54;go_wp2_with fail;go_ret;exact⟨rfl,(xr _).alloc _⟩
 · rw[show rdxT (.mk 14 n ks)=0 from rfl]
   clear j8 hK;go_enter Tryz.func54,Tryz.ntmps54;go_wp2_with fail;go_ret;exact⟨rfl,(xr _).alloc _⟩
 · have hlen:ks.length=1:=by have:(1:Int)=(ks.length:Int):=j8;omega
   have hlt:(0:Int) <(ks.length:Int):=by omega
   obtain⟨b,o,k',n',A',cap',kids,rfl,hid,c0,c1,c2,-,-,-,-,-⟩:=hK.get ((xr w).alloc (.cells #[.int .i64 15,.int .i64 n,.slice A ks.length cap] 25)) (j:=0) (by omega);simp only[Nat.zero_mul,Nat.add_zero] at c0;clear c1 c2;have E7:kd ks 0= .mk k' n' kids:=q43 (by omega) hid.out;have hR:rdxT (.mk 15 n ks)=if k'=14 then 5 else 0:=by show rdx 15 ks=_;unfold rdx;rw[E7];rfl
   rw[hR];clear hR E7 hid j8 hK hlen;by_cases e14:k'=14
   · subst e14
     rw[if_pos rfl];go_enter Tryz.func54,Tryz.ntmps54;go_wp2_with fail;go_ret;exact⟨rfl,(xr _).alloc _⟩
   have d14:(k'==14)=false:=beq_eq_false_iff_ne.2 e14;rw[if_neg e14];go_enter Tryz.func54,Tryz.ntmps54;go_wp2_with fail;go_ret;exact⟨rfl,(xr _).alloc _⟩
 · have hlen:ks.length=1:=by have:(1:Int)=(ks.length:Int):=j8;omega
   have hlt:(0:Int) <(ks.length:Int):=by omega
   obtain⟨b,o,k',n',A',cap',kids,rfl,hid,c0,c1,c2,-,-,-,-,-⟩:=hK.get ((xr w).alloc (.cells #[.int .i64 16,.int .i64 n,.slice A ks.length cap] 25)) (j:=0) (by omega);simp only[Nat.zero_mul,Nat.add_zero] at c0;clear c1 c2;have E7:kd ks 0= .mk k' n' kids:=q43 (by omega) hid.out;have hR:rdxT (.mk 16 n ks)=if k'=14 then 6 else 0:=by show rdx 16 ks=_;unfold rdx;rw[E7];rfl
   rw[hR];clear hR E7 hid j8 hK hlen;by_cases e14:k'=14
   · subst e14
     rw[if_pos rfl];go_enter Tryz.func54,Tryz.ntmps54;go_wp2_with fail;go_ret;exact⟨rfl,(xr _).alloc _⟩
   have d14:(k'==14)=false:=beq_eq_false_iff_ne.2 e14;rw[if_neg e14];go_enter Tryz.func54,Tryz.ntmps54;go_wp2_with fail;go_ret;exact⟨rfl,(xr _).alloc _⟩
theorem j88(d:Nat)(ih:j30 d)(s:ByteArray)(a many:Nat)(last:UInt8)(A M L:Int)(hA:A=a)(hM:M=many)(hL:L=(last.toNat:Int))(w:World)(hs:s.size<=1000000000)(ha:a<=s.size+2)(hm:many<=4)(Uf:1<=many):
 Calls Tryz.prog 211 #[.string s,.int .i64 A,.int .i64 d,.int .i64 M,.int .u8 L] w (SerQ w.heap.size w s.size (ser (prs d s.data.toList) s.data.toList last many a)):=by
 subst hA hM hL;exact y165 d ih s a many last w hs ha hm Uf
theorem q61(B:Nat)(w w':World)(size:Nat)(o:Option (Tr×Nat))(ho:o=none)(hx:Ext w w'):j21 B w size o (.returned (.tuple #[.agg #[.int .i64 0,.int .i64 0,.slice none 0 0],.int .i64 (-1)])) w':=
 ⟨.mk 0 0 [],_,-1,rfl,From.leaf _ _ _ _,hx,(fun x hx=> by rw[ho] at hx;cases hx),fun _=> rfl⟩
theorem j14.set{B:Nat}{w:World}{A:Option Addr}{ks:List Tr}(h:j14 B w A ks){p:Addr}(hp:p.block < B)(u:Value):j14 B (w.setCell p u) A ks:=
 h.mono (fun b hb=>⟨hb.1,by simpa using hb.2⟩) (fun b hb=> Below.heap_setCell w p u b (by omega))
theorem From.mk{B:Nat}{w:World}{A:Option Addr}{ks:List Tr}{cap:Nat}(k n:Int)(h:j14 B w A ks)(hl:ks.length<=cap)(hc:cap<=maxLen):From B w (.mk k n ks) (.agg #[.int .i64 k,.int .i64 n,.slice A ks.length cap]):=InT.mk_iff.2 ⟨A,cap,rfl,hl,hc,h⟩
theorem q217(d:Nat)(hd:d<=30)(ih:j30 d)(s:ByteArray)(a:Nat)(w:World)(hs:s.size<=1000000000)(ha:a < s.size)(hc:s[a]=60):
 Calls Tryz.prog 202 #[.string s,.int .i64 a,.int .i64 ((d:Int)+1)] w (j21 w.heap.size w s.size (blk (prs d s.data.toList) s.data.toList a 60)):=by
 have HI:=hdq (fun W=> j88 d ih s (a+1) 4 62 ((a:Int)+1) 4 62 (by omega) (by omega) (by decide) W hs (by omega) (by omega) (by omega));obtain⟨F,hF⟩: ∃F,F=prs d s.data.toList:=⟨_,rfl⟩;rw[<-hF] at HI⊢;obtain⟨S,hS⟩: ∃S,S=ser F s.data.toList 62 4 (a+1):=⟨_,rfl⟩;rw[<-hS] at HI;have hR:blk F s.data.toList a 60=S.map (fun x=>(.mk 9 0 x.1,x.2)):=by rw[hS];rfl
 rw[hR];have HK:=hdq (fun W=> j25 9 W);have hop:opsT 9=4:=rfl;rw[hop] at HK;clear hR ih hF hS hop;go_enter Tryz.func202,Tryz.ntmps202;go_wp2_with fail;refine(HK.out _).mono ?_;rintro e w0 ⟨rfl,rfl⟩;go_wp2_with fail;refine(HI.out _).mono ?_;rintro e w1 ⟨ts,A,cap,nx,rfl,h1,h2,hK,e1,q1,q2⟩;obtain⟨s0,s1,s2,f0,f1,f2⟩:=own3 e1.newBlk;have hsz:=e1.size_alloc;have hx:=((xr w).alloc (.cells #[.int .i64 0,.int .i64 0,.slice none 0 0] 25)).trans e1;have jy:=hdq q1;have kt:=hdq q2;have hK':j14 (w.heap.size+1) w1 A ts:=by simpa using hK
 clear q1 q2 hK;go_wp2_with fail;refine bodyPost_ret (v:= .tuple #[.agg #[.int .i64 9,.int .i64 0,.slice A ts.length cap],.int .i64 nx]) (by simp[results,Tryz.results202,go_sem,s0,s1,s2]) rfl ⟨.mk 9 0 ts,_,nx,rfl, ?_, ?_, ?_, ?_⟩
 · exact(From.mk 9 0 (((hK'.set (by simp) _).set (by simp) _).set (by simp) _) h1 h2).since (by omega)
 · exact((hx.setCell (by simp) _).setCell (by simp) _).setCell (by simp) _
 · intro x hx
   cases S with
   |none=> cases hx
   |some y=>
    obtain⟨g1,g2,g3⟩:=jy.out y rfl;cases hx
    exact⟨by rw[g1],g2,g3⟩
 · intro hx
   cases S with
   |none=> exact kt.out rfl
   |some y=> cases hx
theorem q182(d:Nat)(hd:d<=30)(ih:j30 d)(s:ByteArray)(a:Nat)(w:World)(hs:s.size<=1000000000)(ha:a < s.size)(hc:s[a]=123):
 Calls Tryz.prog 202 #[.string s,.int .i64 a,.int .i64 ((d:Int)+1)] w (j21 w.heap.size w s.size (blk (prs d s.data.toList) s.data.toList a 123)):=by
 have HI:=hdq (fun W=> j88 d ih s (a+1) 3 125 ((a:Int)+1) 3 125 (by omega) (by omega) (by decide) W hs (by omega) (by omega) (by omega));obtain⟨F,hF⟩: ∃F,F=prs d s.data.toList:=⟨_,rfl⟩;rw[<-hF] at HI⊢;obtain⟨S,hS⟩: ∃S,S=ser F s.data.toList 125 3 (a+1):=⟨_,rfl⟩;rw[<-hS] at HI;have hR:blk F s.data.toList a 123=S.map (fun x=>(.mk 10 0 x.1,x.2)):=by rw[hS];rfl
 rw[hR];have HK:=hdq (fun W=> j25 10 W);have hop:opsT 10=3:=rfl;rw[hop] at HK;clear hR ih hF hS hop;go_enter Tryz.func202,Tryz.ntmps202;go_wp2_with fail;refine(HK.out _).mono ?_;rintro e w0 ⟨rfl,rfl⟩;go_wp2_with fail;refine(HI.out _).mono ?_;rintro e w1 ⟨ts,A,cap,nx,rfl,h1,h2,hK,e1,q1,q2⟩;obtain⟨s0,s1,s2,f0,f1,f2⟩:=own3 e1.newBlk;have hsz:=e1.size_alloc;have hx:=((xr w).alloc (.cells #[.int .i64 0,.int .i64 0,.slice none 0 0] 25)).trans e1;have jy:=hdq q1;have kt:=hdq q2;have hK':j14 (w.heap.size+1) w1 A ts:=by simpa using hK
 clear q1 q2 hK;go_wp2_with fail;refine bodyPost_ret (v:= .tuple #[.agg #[.int .i64 10,.int .i64 0,.slice A ts.length cap],.int .i64 nx]) (by simp[results,Tryz.results202,go_sem,s0,s1,s2]) rfl ⟨.mk 10 0 ts,_,nx,rfl, ?_, ?_, ?_, ?_⟩
 · exact(From.mk 10 0 (((hK'.set (by simp) _).set (by simp) _).set (by simp) _) h1 h2).since (by omega)
 · exact((hx.setCell (by simp) _).setCell (by simp) _).setCell (by simp) _
 · intro x hx
   cases S with
   |none=> cases hx
   |some y=>
    obtain⟨g1,g2,g3⟩:=jy.out y rfl;cases hx
    exact⟨by rw[g1],g2,g3⟩
 · intro hx
   cases S with
   |none=> exact kt.out rfl
   |some y=> cases hx
theorem q198(d:Nat)(hd:d<=30)(ih:j30 d)(s:ByteArray)(a:Nat)(w:World)(hs:s.size<=1000000000)(ha:a < s.size)(hc:s[a]=124):
 Calls Tryz.prog 202 #[.string s,.int .i64 a,.int .i64 ((d:Int)+1)] w (j21 w.heap.size w s.size (blk (prs d s.data.toList) s.data.toList a 124)):=by
 have HI:=hdq (fun W=> j88 d ih s (a+1) 3 124 ((a:Int)+1) 3 124 (by omega) (by omega) (by decide) W hs (by omega) (by omega) (by omega));obtain⟨F,hF⟩: ∃F,F=prs d s.data.toList:=⟨_,rfl⟩;rw[<-hF] at HI⊢;obtain⟨S,hS⟩: ∃S,S=ser F s.data.toList 124 3 (a+1):=⟨_,rfl⟩;rw[<-hS] at HI;have hR:blk F s.data.toList a 124=S.map (fun x=>(.mk 14 0 x.1,x.2)):=by rw[hS];rfl
 rw[hR];have HK:=hdq (fun W=> j25 14 W);have hop:opsT 14=3:=rfl;rw[hop] at HK;clear hR ih hF hS hop;go_enter Tryz.func202,Tryz.ntmps202;go_wp2_with fail;refine(HK.out _).mono ?_;rintro e w0 ⟨rfl,rfl⟩;go_wp2_with fail;refine(HI.out _).mono ?_;rintro e w1 ⟨ts,A,cap,nx,rfl,h1,h2,hK,e1,q1,q2⟩;obtain⟨s0,s1,s2,f0,f1,f2⟩:=own3 e1.newBlk;have hsz:=e1.size_alloc;have hx:=((xr w).alloc (.cells #[.int .i64 0,.int .i64 0,.slice none 0 0] 25)).trans e1;have jy:=hdq q1;have kt:=hdq q2;have hK':j14 (w.heap.size+1) w1 A ts:=by simpa using hK
 clear q1 q2 hK;go_wp2_with fail;refine bodyPost_ret (v:= .tuple #[.agg #[.int .i64 14,.int .i64 0,.slice A ts.length cap],.int .i64 nx]) (by simp[results,Tryz.results202,go_sem,s0,s1,s2]) rfl ⟨.mk 14 0 ts,_,nx,rfl, ?_, ?_, ?_, ?_⟩
 · exact(From.mk 14 0 (((hK'.set (by simp) _).set (by simp) _).set (by simp) _) h1 h2).since (by omega)
 · exact((hx.setCell (by simp) _).setCell (by simp) _).setCell (by simp) _
 · intro x hx
   cases S with
   |none=> cases hx
   |some y=>
    obtain⟨g1,g2,g3⟩:=jy.out y rfl;cases hx
    exact⟨by rw[g1],g2,g3⟩
 · intro hx
   cases S with
   |none=> exact kt.out rfl
   |some y=> cases hx
theorem q206(d:Nat)(hd:d<=30)(ih:j30 d)(s:ByteArray)(a:Nat)(w:World)(hs:s.size<=1000000000)(ha:a < s.size)(hc:s[a]=64):
 Calls Tryz.prog 202 #[.string s,.int .i64 a,.int .i64 ((d:Int)+1)] w (j21 w.heap.size w s.size (blk (prs d s.data.toList) s.data.toList a 64)):=by
 have HI:=hdq (fun W=> j88 d ih s (a+2) 3 62 ((a:Int)+2) 3 62 (by omega) (by omega) (by decide) W hs (by omega) (by omega) (by omega));obtain⟨F,hF⟩: ∃F,F=prs d s.data.toList:=⟨_,rfl⟩;rw[<-hF] at HI⊢;obtain⟨S,hS⟩: ∃S,S=ser F s.data.toList 62 3 (a+2):=⟨_,rfl⟩;rw[<-hS] at HI;have hR:blk F s.data.toList a 64=if s.data.toList[a+1]? =some 60 then S.map (fun x=>(.mk 12 0 x.1,x.2)) else none:=by rw[hS];rfl
 obtain⟨R,hRR⟩: ∃R,R=blk F s.data.toList a 64:=⟨_,rfl⟩;rw[<-hRR] at hR⊢;have HK:=hdq (fun W=> j25 12 W);have hop:opsT 12=3:=rfl;rw[hop] at HK;clear hRR ih hF hS hop;by_cases h1:a+1 < s.size
 · obtain⟨c,hcc⟩: ∃c,s[a+1]=c:=⟨_,rfl⟩
   rw[j52 h1 hcc] at hR;have t1:decide ((s.size:Int) <(a:Int)+2)=false:=decide_eq_false (by omega);have hz1:(a:Int)+1 <(s.size:Int):=by omega
   obtain⟨p,hp⟩: ∃p,c.toNat=p:=⟨_,rfl⟩;by_cases ue:c=60
   · rw[if_pos (by rw[ue])] at hR
     have hp60:p=60:=by rw[<-hp,ue];rfl
     have HR:=hdq hR;subst hp60;clear hR ue;go_enter Tryz.func202,Tryz.ntmps202;go_wp2_with fail;refine(HK.out _).mono ?_;rintro e w0 ⟨rfl,rfl⟩;go_wp2_with fail;refine(HI.out _).mono ?_;rintro e w1 ⟨ts,A,cap,nx,rfl,Ff,h2,hK,e1,q1,q2⟩;obtain⟨s0,s1,s2,f0,f1,f2⟩:=own3 e1.newBlk;have hsz:=e1.size_alloc;have hx:=((xr w).alloc (.cells #[.int .i64 0,.int .i64 0,.slice none 0 0] 25)).trans e1;have jy:=hdq q1;have kt:=hdq q2;have hK':j14 (w.heap.size+1) w1 A ts:=by simpa using hK
     clear q1 q2 hK;go_wp2_with fail;refine bodyPost_ret (v:= .tuple #[.agg #[.int .i64 12,.int .i64 0,.slice A ts.length cap],.int .i64 nx]) (by simp[results,Tryz.results202,go_sem,s0,s1,s2]) rfl ⟨.mk 12 0 ts,_,nx,rfl, ?_, ?_, ?_, ?_⟩
     · exact(From.mk 12 0 (((hK'.set (by simp) _).set (by simp) _).set (by simp) _) Ff h2).since (by omega)
     · exact((hx.setCell (by simp) _).setCell (by simp) _).setCell (by simp) _
     · intro x hx
       rw[HR.out] at hx;cases S with
       |none=> cases hx
       |some y=>
        obtain⟨g1,g2,g3⟩:=jy.out y rfl;cases hx
        exact⟨by rw[g1],g2,g3⟩
     · intro hx
       rw[HR.out] at hx;cases S with
       |none=> exact kt.out rfl
       |some y=> cases hx
   · rw[if_neg (by intro h;cases h;exact ue rfl)] at hR
     have t2:((p:Int) !=60)=true:=by rw[bne_iff_ne];intro h;exact ue (UInt8.toNat_inj.1 (by rw[hp];simp;omega))
     have HR:=hdq hR;clear hR ue;go_enter Tryz.func202,Tryz.ntmps202;go_wp2_with fail;exact bodyPost_ret (v:= .tuple #[.agg #[.int .i64 0,.int .i64 0,.slice none 0 0],.int .i64 (-1)]) (by simp[results,Tryz.results202,go_sem]) rfl (q61 _ _ _ _ _ HR.out ((xr w).alloc _))
 · rw[q54 s (by omega),if_neg (by simp)] at hR
   have t1:decide ((s.size:Int) <(a:Int)+2)=true:=decide_eq_true (by omega);have HR:=hdq hR;clear hR;go_enter Tryz.func202,Tryz.ntmps202;go_wp2_with fail;exact bodyPost_ret (v:= .tuple #[.agg #[.int .i64 0,.int .i64 0,.slice none 0 0],.int .i64 (-1)]) (by simp[results,Tryz.results202,go_sem]) rfl (q61 _ _ _ _ _ HR.out ((xr w).alloc _))
theorem y210(d:Nat)(hd:d<=30)(s:ByteArray)(a:Nat)(w:World)(hs:s.size<=1000000000)(ha:a < s.size)(c:UInt8)(hc:s[a]=c)(hk:blkK c=0):
 Calls Tryz.prog 202 #[.string s,.int .i64 a,.int .i64 ((d:Int)+1)] w (j21 w.heap.size w s.size (blk (prs d s.data.toList) s.data.toList a c)):=by
 have HR:=hdq (show blk (prs d s.data.toList) s.data.toList a c=none from by unfold blk;rw[if_pos hk]);generalize blk (prs d s.data.toList) s.data.toList a c=R at HR⊢;obtain⟨p,hp⟩: ∃p,c.toNat=p:=⟨_,rfl⟩;have g1:c≠60:=fun h=> by rw[h] at hk;exact absurd hk (by decide)
 have g2:c≠123:=fun h=> by rw[h] at hk;exact absurd hk (by decide)
 have g3:c≠124:=fun h=> by rw[h] at hk;exact absurd hk (by decide)
 have g4:c≠64:=fun h=> by rw[h] at hk;exact absurd hk (by decide)
 have t1:((p:Int)==60)=false:=by rw[beq_eq_false_iff_ne];intro h;exact g1 (UInt8.toNat_inj.1 (by rw[hp];simp;omega))
 have t2:((p:Int)==123)=false:=by rw[beq_eq_false_iff_ne];intro h;exact g2 (UInt8.toNat_inj.1 (by rw[hp];simp;omega))
 have t3:((p:Int)==124)=false:=by rw[beq_eq_false_iff_ne];intro h;exact g3 (UInt8.toNat_inj.1 (by rw[hp];simp;omega))
 have t4:((p:Int)==64)=false:=by rw[beq_eq_false_iff_ne];intro h;exact g4 (UInt8.toNat_inj.1 (by rw[hp];simp;omega))
 clear g1 g2 g3 g4 hk;go_enter Tryz.func202,Tryz.ntmps202;go_wp2_with fail;exact bodyPost_ret (v:= .tuple #[.agg #[.int .i64 0,.int .i64 0,.slice none 0 0],.int .i64 (-1)]) (by simp[results,Tryz.results202,go_sem]) rfl (q61 _ _ _ _ _ HR.out ((xr w).alloc _))
theorem box1{w w1:World}{a:Obj}(h:w1=w.alloc a):w1.heap[w.heap.size]? =some a/\w.heap.size < w1.heap.size/\Ext w w1:=by
 subst h;obtain⟨p,s⟩:=blk1 (xr (w.alloc a));exact⟨p,s,(xr w).alloc a⟩
theorem box2{w w1:World}{a b:Obj}(h:w1=(w.alloc a).alloc b):w1.heap[w.heap.size]? =some a/\w1.heap[w.heap.size+1]? =some b/\w.heap.size+1 < w1.heap.size/\Ext w w1:=by
 subst h;obtain⟨p,q,s⟩:=blk2 (xr ((w.alloc a).alloc b));exact⟨p,q,s,((xr w).alloc a).alloc b⟩
theorem box3{w w1:World}{a b c:Obj}(h:w1=((w.alloc a).alloc b).alloc c):w1.heap[w.heap.size]? =some a/\w1.heap[w.heap.size+1]? =some b/\w1.heap[w.heap.size+1+1]? =some c/\w.heap.size+1+1 < w1.heap.size/\Ext w w1:=by
 subst h;obtain⟨p,q,r,s⟩:=blk3 (xr (((w.alloc a).alloc b).alloc c));exact⟨p,q,r,s,(((xr w).alloc a).alloc b).alloc c⟩
theorem cb1{w:World}{g:Nat}{x0:Value}{e:TypeId}(hb:w.heap[g]? =some (.cells #[x0] e (0,0))):w.cell? ⟨g,0,none⟩=some x0/\g < w.heap.size:=⟨q10 hb 0,j10 hb⟩
theorem cb3{w:World}{g:Nat}{x0 x1 x2:Value}{e:TypeId}(hb:w.heap[g]? =some (.cells #[x0,x1,x2] e (0,0))):w.cell? ⟨g,0,none⟩=some x0/\w.cell? ⟨g,1,none⟩=some x1/\w.cell? ⟨g,2,none⟩=some x2/\g < w.heap.size:=⟨q10 hb 0,q10 hb 1,q10 hb 2,j10 hb⟩
theorem cb5{w:World}{g:Nat}{x0 x1 x2 x3 x4:Value}{e:TypeId}(hb:w.heap[g]? =some (.cells #[x0,x1,x2,x3,x4] e (0,0))):w.cell? ⟨g,0,none⟩=some x0/\w.cell? ⟨g,1,none⟩=some x1/\w.cell? ⟨g,2,none⟩=some x2/\w.cell? ⟨g,3,none⟩=some x3/\w.cell? ⟨g,4,none⟩=some x4/\g < w.heap.size:=⟨q10 hb 0,q10 hb 1,q10 hb 2,q10 hb 3,q10 hb 4,j10 hb⟩
theorem cbn{w:World}{g:Nat}{x0 x1 x2:Value}{e:TypeId}(hb:w.heap[g]? =some (.cells #[x0,x1,x2] e (0,0))):
 w.cell? ⟨g,0,none⟩=some x0/\w.cell? ⟨g,1,none⟩=some x1/\w.cell? ⟨g,2,none⟩=some x2/\w.frozen? ⟨g,0,none⟩=false/\w.frozen? ⟨g,1,none⟩=false/\w.frozen? ⟨g,2,none⟩=false:=own3 hb
theorem cbr{w:World}{g:Nat}{x0 x1 x2:Value}{e:TypeId}(hb:w.heap[g]? =some (.cells #[x0,x1,x2] e (0,0))):
 w.cell? ⟨g,0,none⟩=some x0/\w.cell? ⟨g,1,none⟩=some x1/\w.cell? ⟨g,2,none⟩=some x2/\w.frozen? ⟨g,0,none⟩=false/\w.frozen? ⟨g,1,none⟩=false/\w.frozen? ⟨g,2,none⟩=false/\g < w.heap.size:=
 ⟨q10 hb 0,q10 hb 1,q10 hb 2,y13 hb 0,y13 hb 1,y13 hb 2,j10 hb⟩
theorem Ext.set3{a b:World}(h:Ext a b){g:Nat}(hg:a.heap.size<=g)(x y z:Value):Ext a (((b.setCell ⟨g,0,none⟩ x).setCell ⟨g,1,none⟩ y).setCell ⟨g,2,none⟩ z):=((h.setCell hg x).setCell hg y).setCell hg z
theorem q11{a:Act}{t:Nat}{v:Value}(h:a.eval (.tmp t)=v):a.tmps[t]?.getD undef=v:=by
 rw[<-h];exact(Array.getD_eq_getD_getElem? ..).symm
def BoxAt(W w:World)(g:Nat):Prop:=W.heap.size<=g/\w.heap[g]? =some (.cells #[.int .i64 0,.int .i64 0,.slice none 0 0] 25 (0,0))
inductive Sp where
 |any
 |val (u:Value)
 |tree (M:Nat->Prop) (t:Tr)
 |row (M:Nat->Prop) (ts:List Tr)
 |two (M:Nat->Prop) (t:Tr) (c:Value)
 |box (W:World)
def Sp.holds:Sp->Value->World->Prop
 | .any,_,_=> True
 | .val u,v,_=> v=u
 | .tree M t,v,w=> InT w M t v
 | .row M ts,v,w=> ∃A c,v= .slice A ts.length c/\ts.length<=c/\c<=maxLen/\InK w M A ts
 | .two M t c,v,w=> ∃u,v= .tuple #[u,c]/\InT w M t u
 | .box W,v,w=> ∃g,v= .pointer (some ⟨g,0,none⟩)/\BoxAt W w g
theorem InK.news{w:World}{M:Nat->Prop}{e:TypeId}{t:Tr}{v0 v1 v2:Value}(h:InT w M t (.agg #[v0,v1,v2]))(hM:M w.heap.size):InK (w.alloc (.cells #[v0,v1,v2] e)) M (some ⟨w.heap.size,0,none⟩) [t]:=
 .inr ⟨w.heap.size,0,rfl,hM,⟨⟨v0,v1,v2,q10 (heap_alloc_new w _) 0,q10 (heap_alloc_new w _) 1,q10 (heap_alloc_new w _) 2,h.later ((xr w).alloc _)⟩,trivial⟩⟩
theorem InK.news2{w:World}{M:Nat->Prop}{e:TypeId}{t u:Tr}{v0 v1 v2 u0 u1 u2:Value}(h:InT w M t (.agg #[v0,v1,v2]))(k:InT w M u (.agg #[u0,u1,u2]))(hM:M w.heap.size):InK (w.alloc (.cells #[v0,v1,v2,u0,u1,u2] e)) M (some ⟨w.heap.size,0,none⟩) [t,u]:=
 .inr ⟨w.heap.size,0,rfl,hM,⟨⟨v0,v1,v2,q10 (heap_alloc_new w _) 0,q10 (heap_alloc_new w _) 1,q10 (heap_alloc_new w _) 2,h.later ((xr w).alloc _)⟩,⟨u0,u1,u2,q10 (heap_alloc_new w _) 3,q10 (heap_alloc_new w _) 4,q10 (heap_alloc_new w _) 5,k.later ((xr w).alloc _)⟩,trivial⟩⟩
theorem InK.news3{w:World}{M:Nat->Prop}{e:TypeId}{t u x:Tr}{v0 v1 v2 u0 u1 u2 x0 x1 x2:Value}(h:InT w M t (.agg #[v0,v1,v2]))(k:InT w M u (.agg #[u0,u1,u2]))(l:InT w M x (.agg #[x0,x1,x2]))(hM:M w.heap.size):InK (w.alloc (.cells #[v0,v1,v2,u0,u1,u2,x0,x1,x2] e)) M (some ⟨w.heap.size,0,none⟩) [t,u,x]:=
 .inr ⟨w.heap.size,0,rfl,hM,⟨⟨v0,v1,v2,q10 (heap_alloc_new w _) 0,q10 (heap_alloc_new w _) 1,q10 (heap_alloc_new w _) 2,h.later ((xr w).alloc _)⟩,⟨u0,u1,u2,q10 (heap_alloc_new w _) 3,q10 (heap_alloc_new w _) 4,q10 (heap_alloc_new w _) 5,k.later ((xr w).alloc _)⟩,⟨x0,x1,x2,q10 (heap_alloc_new w _) 6,q10 (heap_alloc_new w _) 7,q10 (heap_alloc_new w _) 8,l.later ((xr w).alloc _)⟩,trivial⟩⟩
end Go.Proofs.YtbnkbepgmenblaaGreat
namespace Go.Proofs.YtbnkbepgmenblaaGreat
open Go.RowKit
attribute [local go_sem ↓] Go.wp_at_zero Go.wp_at_succ
theorem q85(p:Tr->Bool)(t:Tr)(q:List Int): ∀(a:List Tr) (i:Nat),plcs p i (a++ [t]) q=plcs p i a q++plc p t (q++ [((i+a.length:Nat):Int)])
 | [],i=> by simp[plcs]
 |x::a,i=> by
  rw[List.cons_append,plcs,plcs,q85 p t q a (i+1),List.append_assoc,List.length_cons,show i+1+a.length=i+(a.length+1) by omega]
theorem y162(p:Tr->Bool)(t:Tr)(q:List Int):(plc p t q).length<=cnt t:=by rw[y178];exact y200 p t
theorem y76(p:Tr->Bool)(ks:List Tr)(i:Nat)(q:List Int):(plcs p i ks q).length<=cnts ks:=by rw[j127];exact j126 p ks
theorem q32{w:World}{base base' k n:Nat}{e:TypeId}{v:Value}{xs:List Value}(h:w.ownsRow base e k v n xs)(hb:base'<=base):w.ownsRow base' e k v n xs:=by
 refine⟨h.1, ?_⟩;rcases h.2 with h|⟨g,cap,cur,rfl,h1,r⟩
 · exact .inl h
 · exact .inr ⟨g,cap,cur,rfl,Nat.le_trans hb h1,r⟩
def j206(w:World)(u:Value)(p:List Int):Prop:=q20 w (fun b=> b < w.heap.size) u p
theorem j206.ext{w w':World}{u:Value}{p:List Int}(h:j206 w u p)(he:Ext w w'):j206 w' u p:=h.mono (fun b hb=> Nat.lt_of_lt_of_le hb he.size) (fun b hb=> he.heap b hb)
theorem j31{w:World}{base:Nat}{e:TypeId}{v:Value}{p:List Int}(h:w.ownsRow base e 1 v p.length (p.map (Value.int .i64))):j206 w v p:=(j34 h).mono (fun b hb=> hb.2.1) (fun _ _=> rfl)
theorem y124:(Tryz.prog.info? 3).map (fun i=>(i.zero,i.size,i.bytes))=some (some (.int .i64 0),1,8):=by kernel_rfl
theorem q188:(Tryz.prog.info? 26).map (fun i=>(i.zero,i.size,i.bytes))=some (some (.slice none 0 0),1,24):=by kernel_rfl
theorem Ext.ownsRow{w w':World}{base n:Nat}{e:TypeId}{k:Nat}{v:Value}{xs:List Value}(he:Ext w w')(h:w.ownsRow base e k v n xs):w'.ownsRow base e k v n xs:=y79 h (fun g hg=> he.heap g (h.lt g hg).2)
theorem y24.form{W w:World}{e:TypeId}{v:Value}{ps:List (List Int)}(h:y24 W w e v ps): ∃B c,v= .slice B ps.length c:=by
 obtain⟨A,c,h1,-⟩:=h.slice;exact⟨A,c,h1⟩
theorem y24.form3{W w:World}{e:TypeId}{v:Value}{ps:List (List Int)}(h:y24 W w e v ps): ∃B l c,v= .slice B l c:=by
 obtain⟨A,c,h1⟩:=h.form;exact⟨A,_,c,h1⟩
def allP(_:Tr):Bool:=true
end Go.Proofs.YtbnkbepgmenblaaGreat
