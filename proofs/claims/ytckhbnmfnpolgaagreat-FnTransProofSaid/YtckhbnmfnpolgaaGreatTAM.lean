/- Lemmas towards the law. -/
import Derived.Test.YtckhbnmfnpolgaaGreatTAA
import Derived.Test.YtckhbnmfnpolgaaGreatTAL
open List renaming eq_nil_of_length_eq_zero->bW
open Go renaming World->aN,Value->aU,TypeId->bU,bodyPost_ret->aQ,results->aS
open Nat renaming zero_mul->dN,add_zero->cX,reduceMul->fQ
open Go.RowKit.Below renaming heap_setCell->aM
open Go.Proofs.Tryz
set_option linter.all false
set_option maxHeartbeats 1000000
set_option maxRecDepth 100000
namespace Go.Proofs.YtckhbnmfnpolgaaGreat
def enc:M.Tm->Tr
 | .var n=> .mk 1 n []
 | .sort n=> .mk 2 n []
 | .pi A B=> .mk 3 0 [enc A,enc B]
 | .lam A t=> .mk 4 0 [enc A,enc t]
 | .app f a=> .mk 5 0 [enc f,enc a]
 | .nat=> .mk 6 0 []
 | .zero=> .mk 7 0 []
 | .succ a=> .mk 8 0 [enc a]
 | .elim p z s a=> .mk 9 0 [enc p,enc z,enc s,enc a]
 | .id T a b=> .mk 10 0 [enc T,enc a,enc b]
 | .refl a=> .mk 11 0 [enc a]
 | .move p e a=> .mk 12 0 [enc p,enc e,enc a]
 | .sg A B=> .mk 13 0 [enc A,enc B]
 | .pair T a b=> .mk 14 0 [enc T,enc a,enc b]
 | .fst a=> .mk 15 0 [enc a]
 | .snd a=> .mk 16 0 [enc a]
def Ol(y c n:Nat):Nat:=if c<=n then n+y else n
theorem uw(y c:Nat):M.Tm.upr (Ol y c)=Ol y (c+1):=by
 funext n
 cases n with
 |zero=> simp[M.Tm.upr,Ol]
 |succ n=>
  show Ol y c n+1=_
  unfold Ol;by_cases h:c<=n
  · rw[if_pos h,if_pos (by omega)];omega
  · rw[if_neg h,if_neg (by omega)]
theorem Wj(y:Nat): ∀(t:M.Tm) (c:Nat),shfT (y:Int) (enc t) (c:Int)=enc (t.ren (Ol y c)):=by
 have d: ∀(k:Int) (c:Nat),(c:Int)+T4 k 0=(c:Int):=fun k c=> by simp[T4]
 intro t
 induction t with
 |var n=>
  intro c;simp only[enc,M.Tm.ren,shfT,i9,Ol];by_cases h:c<=n
  · rw[if_pos ⟨trivial,by omega⟩,if_pos h];congr 1
  · rw[if_neg (fun e=> h (by omega)),if_neg h]
 |pi A B a b=>
  intro c;simp only[enc,M.Tm.ren,shfT,i9,d,a,uw];rw[show(c:Int)+T4 3 (0+1)=((c+1:Nat):Int) from rfl,b]
  rfl
 |lam A B a b=>
  intro c;simp only[enc,M.Tm.ren,shfT,i9,d,a,uw];rw[show(c:Int)+T4 4 (0+1)=((c+1:Nat):Int) from rfl,b]
  rfl
 |sg A B a b=>
  intro c;simp only[enc,M.Tm.ren,shfT,i9,d,a,uw];rw[show(c:Int)+T4 13 (0+1)=((c+1:Nat):Int) from rfl,b]
  rfl
 |_=> intro c;simp_all [enc,M.Tm.ren,shfT,i9,T4]
def qe(u:M.Tm)(k n:Nat):M.Tm:=if n=k then u.ren (fun i=> i+k) else if k < n then .var (n - 1) else .var n
theorem BI(u:M.Tm):qe u 0=M.Tm.cns u M.Tm.var:=by
 funext n
 cases n with
 |zero=> simp[qe,M.Tm.cns,M.Tm.ren_id]
 |succ n=> simp[qe,M.Tm.cns]
theorem Xu(u:M.Tm)(k:Nat):M.Tm.ups (qe u k)=qe u (k+1):=by
 funext n
 cases n with
 |zero=> simp[M.Tm.ups,qe]
 |succ n=>
  show M.Tm.wk (qe u k n)=qe u (k+1) (n+1)
  by_cases h:n=k
  · have a:qe u k n=u.ren (fun i=> i+k):=if_pos h
    have b:qe u (k+1) (n+1)=u.ren (fun i=> i+(k+1)):=if_pos (by omega);rw[a,b,M.Tm.wk,M.Tm.ren_ren];rfl
  · by_cases c:k < n
    · have a:qe u k n= .var (n - 1):=by unfold qe;rw[if_neg h,if_pos c]
      have b:qe u (k+1) (n+1)= .var n:=by unfold qe;rw[if_neg (by omega),if_pos (by omega)];rfl
      rw[a,b]
      show M.Tm.var (n - 1+1)=_
      congr 1
      omega
    · have a:qe u k n= .var n:=by unfold qe;rw[if_neg h,if_neg c]
      have b:qe u (k+1) (n+1)= .var (n+1):=by unfold qe;rw[if_neg (by omega),if_neg (by omega)]
      rw[a,b];rfl
theorem Xw(k:Nat):Ol k 0=fun i=> i+k:=by funext i;simp[Ol]
theorem Ro(u:M.Tm): ∀(t:M.Tm) (k:Nat),X0 (enc u) (enc t) (k:Int) (k:Int)=enc (t.sub (qe u k)):=by
 have f: ∀(k:Int) (c:Nat),(c:Int)+T4 k 0=(c:Int):=fun k c=> by simp[T4]
 intro t
 induction t with
 |var n=>
  intro k;simp only[enc,M.Tm.sub,X0,R9,qe];by_cases h:n=k
  · rw[if_pos ⟨trivial,by omega⟩,if_pos h,<-Xw]
    exact Wj k u 0
  · rw[if_neg (fun e=> h (by omega)),if_neg h]
    by_cases d:k < n
    · rw[if_pos ⟨trivial,by omega⟩,if_pos d]
      simp only[enc]
      congr 1
      omega
    · rw[if_neg (fun e=> d (by omega)),if_neg d];rfl
 |pi A B a b=>
  intro c;simp only[enc,M.Tm.sub,X0,R9,f,a,Xu];rw[show(c:Int)+T4 3 (0+1)=((c+1:Nat):Int) from rfl,b]
  rfl
 |lam A B a b=>
  intro c;simp only[enc,M.Tm.sub,X0,R9,f,a,Xu];rw[show(c:Int)+T4 4 (0+1)=((c+1:Nat):Int) from rfl,b]
  rfl
 |sg A B a b=>
  intro c;simp only[enc,M.Tm.sub,X0,R9,f,a,Xu];rw[show(c:Int)+T4 13 (0+1)=((c+1:Nat):Int) from rfl,b]
  rfl
 |_=> intro c;simp_all [enc,M.Tm.sub,X0,R9,T4]
theorem Yp(t u:M.Tm):X0 (enc u) (enc t) 0 0=enc (t.inst u):=by
 have:=Ro u t 0;rw[BI] at this;exact this
theorem wd: ∀{t u:M.Tm},enc t=enc u->t=u:=by
 intro t
 induction t <;> intro u h <;> cases u <;> simp[enc] at h⊢ <;> first|omega|(obtain⟨b,a,c,d⟩:=h;refine⟨?_, ?_, ?_, ?_⟩ <;> solve_by_elim) |(obtain⟨b,a,c⟩:=h;refine⟨?_, ?_, ?_⟩ <;> solve_by_elim) |(obtain⟨b,a⟩:=h;refine⟨?_, ?_⟩ <;> solve_by_elim) |solve_by_elim
theorem Tw: ∀(t:Tr) (d:Int),I0 sigT t d=true-> ∃m,enc m=t:=Tr.ind fun k n f ih=> by
 intro d h;obtain⟨o,q,j,l⟩:=m6 h;have p:S0 k=(f.length:Int):=o;have i:n<=Za k:=j;have e: ∀t∈f,∃m,enc m=t:=fun t ht=> ih t ht _ (l t ht)
 have g:k≠1->k≠2->n=0:=fun a b=> by unfold Za at i;rw[if_neg a,if_neg b] at i;omega
 rcases ZG p with rfl|rfl|rfl|rfl|rfl|rfl|rfl|rfl|rfl|rfl|rfl|rfl|rfl|rfl|rfl|rfl
 · have:f= []:=bW (by have:S0 1=0:=rfl;omega)
   subst this;exact⟨.var n.toNat,by unfold enc;congr 1;omega⟩
 · have:f= []:=bW (by have:S0 2=0:=rfl;omega)
   subst this;exact⟨.sort n.toNat,by unfold enc;congr 1;omega⟩
 · obtain rfl:=g (by decide) (by decide)
   match f,(show f.length=2 by have:S0 3=2:=rfl;omega),e with
   | [x,y],_,e=>
    obtain⟨a,rfl⟩:=e x (by simp);obtain⟨b,rfl⟩:=e y (by simp);exact⟨.pi a b,rfl⟩
 · obtain rfl:=g (by decide) (by decide)
   match f,(show f.length=2 by have:S0 4=2:=rfl;omega),e with
   | [x,y],_,e=>
    obtain⟨a,rfl⟩:=e x (by simp);obtain⟨b,rfl⟩:=e y (by simp);exact⟨.lam a b,rfl⟩
 · obtain rfl:=g (by decide) (by decide)
   match f,(show f.length=2 by have:S0 5=2:=rfl;omega),e with
   | [x,y],_,e=>
    obtain⟨a,rfl⟩:=e x (by simp);obtain⟨b,rfl⟩:=e y (by simp);exact⟨.app a b,rfl⟩
 · obtain rfl:=g (by decide) (by decide)
   match f,(show f.length=0 by have:S0 6=0:=rfl;omega),e with
   | [],_,e=>
    exact⟨.nat,rfl⟩
 · obtain rfl:=g (by decide) (by decide)
   match f,(show f.length=0 by have:S0 7=0:=rfl;omega),e with
   | [],_,e=>
    exact⟨.zero,rfl⟩
 · obtain rfl:=g (by decide) (by decide)
   match f,(show f.length=1 by have:S0 8=1:=rfl;omega),e with
   | [x],_,e=>
    obtain⟨a,rfl⟩:=e x (by simp);exact⟨.succ a,rfl⟩
 · obtain rfl:=g (by decide) (by decide)
   match f,(show f.length=4 by have:S0 9=4:=rfl;omega),e with
   | [x,y,u,v],_,e=>
    obtain⟨a,rfl⟩:=e x (by simp);obtain⟨b,rfl⟩:=e y (by simp);obtain⟨c,rfl⟩:=e u (by simp);obtain⟨d,rfl⟩:=e v (by simp);exact⟨.elim a b c d,rfl⟩
 · obtain rfl:=g (by decide) (by decide)
   match f,(show f.length=3 by have:S0 10=3:=rfl;omega),e with
   | [x,y,u],_,e=>
    obtain⟨a,rfl⟩:=e x (by simp);obtain⟨b,rfl⟩:=e y (by simp);obtain⟨c,rfl⟩:=e u (by simp);exact⟨.id a b c,rfl⟩
 · obtain rfl:=g (by decide) (by decide)
   match f,(show f.length=1 by have:S0 11=1:=rfl;omega),e with
   | [x],_,e=>
    obtain⟨a,rfl⟩:=e x (by simp);exact⟨.refl a,rfl⟩
 · obtain rfl:=g (by decide) (by decide)
   match f,(show f.length=3 by have:S0 12=3:=rfl;omega),e with
   | [x,y,u],_,e=>
    obtain⟨a,rfl⟩:=e x (by simp);obtain⟨b,rfl⟩:=e y (by simp);obtain⟨c,rfl⟩:=e u (by simp);exact⟨.move a b c,rfl⟩
 · obtain rfl:=g (by decide) (by decide)
   match f,(show f.length=2 by have:S0 13=2:=rfl;omega),e with
   | [x,y],_,e=>
    obtain⟨a,rfl⟩:=e x (by simp);obtain⟨b,rfl⟩:=e y (by simp);exact⟨.sg a b,rfl⟩
 · obtain rfl:=g (by decide) (by decide)
   match f,(show f.length=3 by have:S0 14=3:=rfl;omega),e with
   | [x,y,u],_,e=>
    obtain⟨a,rfl⟩:=e x (by simp);obtain⟨b,rfl⟩:=e y (by simp);obtain⟨c,rfl⟩:=e u (by simp);exact⟨.pair a b c,rfl⟩
 · obtain rfl:=g (by decide) (by decide)
   match f,(show f.length=1 by have:S0 15=1:=rfl;omega),e with
   | [x],_,e=>
    obtain⟨a,rfl⟩:=e x (by simp);exact⟨.fst a,rfl⟩
 · obtain rfl:=g (by decide) (by decide)
   match f,(show f.length=1 by have:S0 16=1:=rfl;omega),e with
   | [x],_,e=>
    obtain⟨a,rfl⟩:=e x (by simp);exact⟨.snd a,rfl⟩
theorem Fr{t o:M.Tm}(h:M.Par t o):Par (enc t) (enc o):=by
 induction h with
 |var n=> exact Par.refl _
 |sort n=> exact Par.refl _
 |nat=> exact Par.refl _
 |zero=> exact Par.refl _
 | @beta A b u a l g f c d=>
  have h:=Par.red (k:=5) (n:=0) (ks:= [enc (.lam A b),enc a]) (by simp[rdx,kd,Tr.kind,enc]) (.cons (.node (k:=4) (n:=0) (.cons (Par.refl (enc A)) (.cons c .nil))) (.cons d .nil));rw[<-Yp];exact h
 | @ez p z r s h i=> exact Par.red (k:=9) (n:=0) (ks:= [enc p,enc z,enc s,enc .zero]) (by simp[rdx,kd,Tr.kind,enc]) (.cons (Par.refl _) (.cons i (.cons (Par.refl _) (.cons (Par.refl _) .nil))))
 | @es p w z r s v a l g f j q c d e m=> exact Par.red (k:=9) (n:=0) (ks:= [enc p,enc z,enc s,enc (.succ a)]) (by simp[rdx,kd,Tr.kind,enc]) (.cons c (.cons d (.cons e (.cons (.node (k:=8) (n:=0) (.cons m .nil)) .nil))))
 | @mr p b a l h i=> exact Par.red (k:=12) (n:=0) (ks:= [enc p,enc (.refl b),enc a]) (by simp[rdx,kd,Tr.kind,enc]) (.cons (Par.refl _) (.cons (Par.refl _) (.cons i .nil)))
 | @fp T a l b h i=> exact Par.red (k:=15) (n:=0) (ks:= [enc (.pair T a b)]) (by simp[rdx,kd,Tr.kind,enc]) (.cons (.node (k:=14) (n:=0) (.cons (Par.refl _) (.cons i (.cons (Par.refl _) .nil)))) .nil)
 | @sp T a b u h i=> exact Par.red (k:=16) (n:=0) (ks:= [enc (.pair T a b)]) (by simp[rdx,kd,Tr.kind,enc]) (.cons (.node (k:=14) (n:=0) (.cons (Par.refl _) (.cons (Par.refl _) (.cons i .nil)))) .nil)
 |elim g f j q c d e m=> exact .node (.cons c (.cons d (.cons e (.cons m .nil))))
 |pi g f c d=> exact .node (.cons c (.cons d .nil))
 |lam g f c d=> exact .node (.cons c (.cons d .nil))
 |app g f c d=> exact .node (.cons c (.cons d .nil))
 |sg g f c d=> exact .node (.cons c (.cons d .nil))
 |id g f j c d e=> exact .node (.cons c (.cons d (.cons e .nil)))
 |move g f j c d e=> exact .node (.cons c (.cons d (.cons e .nil)))
 |pair g f j c d e=> exact .node (.cons c (.cons d (.cons e .nil)))
 |succ h i=> exact .node (.cons i .nil)
 |refl h i=> exact .node (.cons i .nil)
 |fst h i=> exact .node (.cons i .nil)
 |snd h i=> exact .node (.cons i .nil)
theorem WB{t a:M.Tm}(h:M.Red t a):i8 (enc t) (enc a):=by
 induction h with
 |refl=> exact .refl _
 |step b _ ih=> exact(i8.one (Fr b)).trans ih
theorem Xq: ∀{t:M.Tm} {l:Tr},Par (enc t) l-> ∃m,l=enc m/\M.Par t m:=by
 have no: ∀{k:Int} {G:List Tr},rdx k G≠0->k=5\/k=9\/k=12\/k=15\/k=16:=by
  intro k G h;by_cases x:k=5
  · exact .inl x
  by_cases y:k=9
  · exact .inr (.inl y)
  by_cases F:k=12
  · exact .inr (.inr (.inl F))
  by_cases w:k=15
  · exact .inr (.inr (.inr (.inl w)))
  by_cases I:k=16
  · exact .inr (.inr (.inr (.inr I)))
  exact absurd (Pn x y F w I) h
 intro t
 induction t with
 |var n=> intro l h;cases h with
  |node h=> cases h;exact⟨.var n,rfl,.var n⟩
  |red h=> exact absurd (no h) (by decide)
 |sort n=> intro l h;cases h with
  |node h=> cases h;exact⟨.sort n,rfl,.sort n⟩
  |red h=> exact absurd (no h) (by decide)
 |nat=> intro l h;cases h with
  |node h=> cases h;exact⟨.nat,rfl,.nat⟩
  |red h=> exact absurd (no h) (by decide)
 |zero=> intro l h;cases h with
  |node h=> cases h;exact⟨.zero,rfl,.zero⟩
  |red h=> exact absurd (no h) (by decide)
 |pi A B g o=> intro l h;cases h with
  |node h=>
   cases h with
   |cons e h=>
   cases h with
   |cons j h=>
   cases h
   obtain⟨a,rfl,f⟩:=g e;obtain⟨b,rfl,i⟩:=o j;exact⟨.pi a b,rfl,.pi f i⟩
  |red h=> exact absurd (no h) (by decide)
 |lam A B g o=> intro l h;cases h with
  |node h=>
   cases h with
   |cons e h=>
   cases h with
   |cons j h=>
   cases h
   obtain⟨a,rfl,f⟩:=g e;obtain⟨b,rfl,i⟩:=o j;exact⟨.lam a b,rfl,.lam f i⟩
  |red h=> exact absurd (no h) (by decide)
 |sg A B g o=> intro l h;cases h with
  |node h=>
   cases h with
   |cons e h=>
   cases h with
   |cons j h=>
   cases h
   obtain⟨a,rfl,f⟩:=g e;obtain⟨b,rfl,i⟩:=o j;exact⟨.sg a b,rfl,.sg f i⟩
  |red h=> exact absurd (no h) (by decide)
 |id A B D g o r=> intro l h;cases h with
  |node h=>
   cases h with
   |cons e h=>
   cases h with
   |cons j h=>
   cases h with
   |cons p h=>
   cases h
   obtain⟨a,rfl,f⟩:=g e;obtain⟨b,rfl,i⟩:=o j;obtain⟨c,rfl,q⟩:=r p;exact⟨.id a b c,rfl,.id f i q⟩
  |red h=> exact absurd (no h) (by decide)
 |pair A B D g o r=> intro l h;cases h with
  |node h=>
   cases h with
   |cons e h=>
   cases h with
   |cons j h=>
   cases h with
   |cons p h=>
   cases h
   obtain⟨a,rfl,f⟩:=g e;obtain⟨b,rfl,i⟩:=o j;obtain⟨c,rfl,q⟩:=r p;exact⟨.pair a b c,rfl,.pair f i q⟩
  |red h=> exact absurd (no h) (by decide)
 |succ A g=> intro l h;cases h with
  |node h=>
   cases h with
   |cons e h=>
   cases h
   obtain⟨a,rfl,f⟩:=g e;exact⟨.succ a,rfl,.succ f⟩
  |red h=> exact absurd (no h) (by decide)
 |refl A g=> intro l h;cases h with
  |node h=>
   cases h with
   |cons e h=>
   cases h
   obtain⟨a,rfl,f⟩:=g e;exact⟨.refl a,rfl,.refl f⟩
  |red h=> exact absurd (no h) (by decide)
 |app A B g o=> intro l h;cases h with
  |node h=>
   cases h with
   |cons e h=>
   cases h with
   |cons j h=>
   cases h
   obtain⟨a,rfl,f⟩:=g e;obtain⟨b,rfl,i⟩:=o j;exact⟨.app a b,rfl,.app f i⟩
  |red hr h=>
   cases h with
   |cons e h=>
   cases h with
   |cons j h=>
   cases h
   obtain⟨a,rfl,f⟩:=g e;obtain⟨b,rfl,i⟩:=o j;cases A <;> simp[rdx,kd,Tr.kind,enc] at hr
   cases f with
   |lam z s=> exact⟨_,by show X0 (enc b) (enc _) 0 0=_;exact Yp _ _,.beta s i⟩
 |fst A g=> intro l h;cases h with
  |node h=>
   cases h with
   |cons e h=>
   cases h
   obtain⟨a,rfl,f⟩:=g e;exact⟨.fst a,rfl,.fst f⟩
  |red hr h=>
   cases h with
   |cons e h=>
   cases h
   obtain⟨a,rfl,f⟩:=g e;cases A <;> simp[rdx,kd,Tr.kind,enc] at hr
   cases f with
   |pair z s C=> exact⟨_,rfl,.fp s⟩
 |snd A g=> intro l h;cases h with
  |node h=>
   cases h with
   |cons e h=>
   cases h
   obtain⟨a,rfl,f⟩:=g e;exact⟨.snd a,rfl,.snd f⟩
  |red hr h=>
   cases h with
   |cons e h=>
   cases h
   obtain⟨a,rfl,f⟩:=g e;cases A <;> simp[rdx,kd,Tr.kind,enc] at hr
   cases f with
   |pair z s C=> exact⟨_,rfl,.sp C⟩
 |move A B D g o r=> intro l h;cases h with
  |node h=>
   cases h with
   |cons e h=>
   cases h with
   |cons j h=>
   cases h with
   |cons p h=>
   cases h
   obtain⟨a,rfl,f⟩:=g e;obtain⟨b,rfl,i⟩:=o j;obtain⟨c,rfl,q⟩:=r p;exact⟨.move a b c,rfl,.move f i q⟩
  |red hr h=>
   cases h with
   |cons e h=>
   cases h with
   |cons j h=>
   cases h with
   |cons p h=>
   cases h
   obtain⟨c,rfl,q⟩:=r p;cases B <;> simp[rdx,kd,Tr.kind,enc] at hr
   exact⟨c,rfl,.mr q⟩
 |elim A B D E g o r H=> intro l h;cases h with
  |node h=>
   cases h with
   |cons e h=>
   cases h with
   |cons j h=>
   cases h with
   |cons p h=>
   cases h with
   |cons v h=>
   cases h
   obtain⟨a,rfl,f⟩:=g e;obtain⟨b,rfl,i⟩:=o j;obtain⟨c,rfl,q⟩:=r p;obtain⟨d,rfl,u⟩:=H v;exact⟨.elim a b c d,rfl,.elim f i q u⟩
  |red hr h=>
   cases h with
   |cons e h=>
   cases h with
   |cons j h=>
   cases h with
   |cons p h=>
   cases h with
   |cons v h=>
   cases h
   obtain⟨a,rfl,f⟩:=g e;obtain⟨b,rfl,i⟩:=o j;obtain⟨c,rfl,q⟩:=r p;obtain⟨d,rfl,u⟩:=H v;cases E <;> simp[rdx,kd,Tr.kind,enc] at hr
   · cases u
     exact⟨b,rfl,.ez i⟩
   · cases u with
     |succ J=> exact⟨_,rfl,.es f i q J⟩
theorem CB{a u:Tr}(h:i8 u a): ∀{t:M.Tm},u=enc t-> ∃m,a=enc m/\M.Red t m:=by
 induction h with
 |refl=> intro t e;exact⟨t,e,.refl t⟩
 |step j f ih=>
  intro t e;obtain⟨m,g,b⟩:=ih e;subst g;obtain⟨c,i,d⟩:=Xq f;exact⟨c,i,b.trans (.one d)⟩
end Go.Proofs.YtckhbnmfnpolgaaGreat
namespace Go.Proofs.YtckhbnmfnpolgaaGreat
open Go.RowKit
theorem FB{w b:aN}{a:Obj}(h:b=w.alloc a):b.heap[w.heap.size]? =some a/\w.heap.size < b.heap.size/\Ext w b:=by
 subst h;obtain⟨p,s⟩:=Ke (xr (w.alloc a));exact⟨p,s,(xr w).alloc a⟩
theorem box2{w c:aN}{a b:Obj}(h:c=(w.alloc a).alloc b):c.heap[w.heap.size]? =some a/\c.heap[w.heap.size+1]? =some b/\w.heap.size+1 < c.heap.size/\Ext w c:=by
 subst h;obtain⟨p,q,s⟩:=blk2 (xr ((w.alloc a).alloc b));exact⟨p,q,s,((xr w).alloc a).alloc b⟩
theorem be{w d:aN}{a b c:Obj}(h:d=((w.alloc a).alloc b).alloc c):d.heap[w.heap.size]? =some a/\d.heap[w.heap.size+1]? =some b/\d.heap[w.heap.size+1+1]? =some c/\w.heap.size+1+1 < d.heap.size/\Ext w d:=by
 subst h;obtain⟨p,q,r,s⟩:=ad (xr (((w.alloc a).alloc b).alloc c));exact⟨p,q,r,s,(((xr w).alloc a).alloc b).alloc c⟩
theorem TD{w e:aN}{a b c d:Obj}(h:e=(((w.alloc a).alloc b).alloc c).alloc d):e.heap[w.heap.size]? =some a/\e.heap[w.heap.size+1]? =some b/\e.heap[w.heap.size+1+1]? =some c/\e.heap[w.heap.size+1+1+1]? =some d/\w.heap.size+1+1+1 < e.heap.size/\Ext w e:=by
 subst h;obtain⟨p,q,r,t,s⟩:=wo (xr ((((w.alloc a).alloc b).alloc c).alloc d));exact⟨p,q,r,t,s,((((xr w).alloc a).alloc b).alloc c).alloc d⟩
theorem yA{w:aN}{g:Nat}{b:aU}{e:bU}(a:w.heap[g]? =some (.cells #[b] e (0,0))):w.cell? ⟨g,0,none⟩=some b/\g < w.heap.size:=⟨E1 a 0,D1 a⟩
theorem cb3{w:aN}{g:Nat}{d c b:aU}{e:bU}(a:w.heap[g]? =some (.cells #[d,c,b] e (0,0))):w.cell? ⟨g,0,none⟩=some d/\w.cell? ⟨g,1,none⟩=some c/\w.cell? ⟨g,2,none⟩=some b/\g < w.heap.size:=⟨E1 a 0,E1 a 1,E1 a 2,D1 a⟩
theorem Ky{w:aN}{g:Nat}{i f b d c:aU}{e:bU}(a:w.heap[g]? =some (.cells #[i,f,b,d,c] e (0,0))):w.cell? ⟨g,0,none⟩=some i/\w.cell? ⟨g,1,none⟩=some f/\w.cell? ⟨g,2,none⟩=some b/\w.cell? ⟨g,3,none⟩=some d/\w.cell? ⟨g,4,none⟩=some c/\g < w.heap.size:=⟨E1 a 0,E1 a 1,E1 a 2,E1 a 3,E1 a 4,D1 a⟩
theorem ZE{w:aN}{g:Nat}{j i b f c d:aU}{e:bU}(a:w.heap[g]? =some (.cells #[j,i,b,f,c,d] e (0,0))):w.cell? ⟨g,0,none⟩=some j/\w.cell? ⟨g,1,none⟩=some i/\w.cell? ⟨g,2,none⟩=some b/\w.cell? ⟨g,3,none⟩=some f/\w.cell? ⟨g,4,none⟩=some c/\w.cell? ⟨g,5,none⟩=some d/\g < w.heap.size:=⟨E1 a 0,E1 a 1,E1 a 2,E1 a 3,E1 a 4,E1 a 5,D1 a⟩
theorem cbn{w:aN}{g:Nat}{c b a:aU}{e:bU}(d:w.heap[g]? =some (.cells #[c,b,a] e (0,0))):
 w.cell? ⟨g,0,none⟩=some c/\w.cell? ⟨g,1,none⟩=some b/\w.cell? ⟨g,2,none⟩=some a/\w.frozen? ⟨g,0,none⟩=false/\w.frozen? ⟨g,1,none⟩=false/\w.frozen? ⟨g,2,none⟩=false:=own3 d
theorem Ca{w:aN}{g:Nat}{d c b:aU}{e:bU}(a:w.heap[g]? =some (.cells #[d,c,b] e (0,0))):
 w.cell? ⟨g,0,none⟩=some d/\w.cell? ⟨g,1,none⟩=some c/\w.cell? ⟨g,2,none⟩=some b/\w.frozen? ⟨g,0,none⟩=false/\w.frozen? ⟨g,1,none⟩=false/\w.frozen? ⟨g,2,none⟩=false/\g < w.heap.size:=
 ⟨E1 a 0,E1 a 1,E1 a 2,mc a 0,mc a 1,mc a 2,D1 a⟩
theorem Ext.set3{a b:aN}(h:Ext a b){g:Nat}(c:a.heap.size<=g)(x y z:aU):Ext a (((b.setCell ⟨g,0,none⟩ x).setCell ⟨g,1,none⟩ y).setCell ⟨g,2,none⟩ z):=((h.setCell c x).setCell c y).setCell c z
theorem iE{k n:Int}{b:List Tr}{d:Int}(h:I0 sigT (.mk k n b) d=true):(S0 k=(b.length:Int))/\(k=1\/k=2\/k=3\/k=4\/k=5\/k=6\/k=7\/k=8\/k=9\/k=10\/k=11\/k=12\/k=13\/k=14\/k=15\/k=16):=by
 obtain⟨a,c,e,f⟩:=Iv h;simp only[sigT] at a;have hr:1<=k/\k<=16:=by
  by_cases h:1<=k/\k<=16
  · exact h
  · exfalso
    unfold S0 at a;rw[if_neg (by omega),if_neg (by omega),if_neg (by omega),if_neg (by omega),if_neg (by omega),if_neg (by omega),if_neg (by omega),if_neg (by omega),if_neg (by omega),if_neg (by omega),if_neg (by omega),if_neg (by omega),if_neg (by omega),if_neg (by omega),if_neg (by omega),if_neg (by omega)] at a;omega
 exact⟨a,by omega⟩
theorem Pe{a:List Tr}{j:Nat}{t:Tr}(b:j < a.length)(h:a[j]=t):kd a j=t:=by
 unfold kd;rw[List.getD_eq_getElem?_getD,List.getElem?_eq_getElem b];exact h
theorem Nt(t:Tr)(d:Int)(hsh:I0 sigT t d=true)(w:aN)(v:aU)(E:Lies w t v):Calls prog 133 #[v] w fun e F=> e= .returned (j0 (J4 t))/\Ext w F:=by
 obtain⟨k,n,a⟩:=t;obtain⟨A,cap,rfl,hl,hc,hK⟩:=Lies.mk_iff.1 E;obtain⟨g,hk⟩:=iE hsh;unfold maxLen at hc;clear hsh E;rcases hk with rfl|rfl|rfl|rfl|rfl|rfl|rfl|rfl|rfl|rfl|rfl|rfl|rfl|rfl|rfl|rfl
 · rw[show J4 (.mk 1 n a)=0 from rfl]
   clear g hK;go_enter func133,ntmps133;go_wp2_with fail;go_ret;exact⟨rfl,(xr _).alloc _⟩
 · rw[show J4 (.mk 2 n a)=0 from rfl]
   clear g hK;go_enter func133,ntmps133;go_wp2_with fail;go_ret;exact⟨rfl,(xr _).alloc _⟩
 · rw[show J4 (.mk 3 n a)=0 from rfl]
   clear g hK;go_enter func133,ntmps133;go_wp2_with fail;go_ret;exact⟨rfl,(xr _).alloc _⟩
 · rw[show J4 (.mk 4 n a)=0 from rfl]
   clear g hK;go_enter func133,ntmps133;go_wp2_with fail;go_ret;exact⟨rfl,(xr _).alloc _⟩
 · have c:a.length=2:=by have:(2:Int)=(a.length:Int):=g;omega
   have r:(0:Int) <(a.length:Int):=by omega
   obtain⟨b,o,f,u,z,m,kids,rfl,hid,s,q,x,-,-,-,-,-⟩:=hK.get ((xr w).alloc (D0 5 n A a.length cap)) (j:=0) (by omega);simp only[dN,cX] at s;clear q x;have p:kd a 0= .mk f u kids:=Pe (by omega) hid.out;have l:J4 (.mk 5 n a)=if f=4 then 1 else 0:=by show rdx 5 a=_;unfold rdx;rw[p];rfl
   rw[l];clear l p hid g hK c;by_cases C:f=4
   · subst C
     rw[if_pos rfl];go_enter func133,ntmps133;go_wp2_with fail;go_ret;exact⟨rfl,(xr _).alloc _⟩
   have J:(f==4)=false:=beq_eq_false_iff_ne.2 C;rw[if_neg C];go_enter func133,ntmps133;go_wp2_with fail;go_ret;exact⟨rfl,(xr _).alloc _⟩
 · rw[show J4 (.mk 6 n a)=0 from rfl]
   clear g hK;go_enter func133,ntmps133;go_wp2_with fail;go_ret;exact⟨rfl,(xr _).alloc _⟩
 · rw[show J4 (.mk 7 n a)=0 from rfl]
   clear g hK;go_enter func133,ntmps133;go_wp2_with fail;go_ret;exact⟨rfl,(xr _).alloc _⟩
 · rw[show J4 (.mk 8 n a)=0 from rfl]
   clear g hK;go_enter func133,ntmps133;go_wp2_with fail;go_ret;exact⟨rfl,(xr _).alloc _⟩
 · have c:a.length=4:=by have:(4:Int)=(a.length:Int):=g;omega
   have r:(3:Int) <(a.length:Int):=by omega
   obtain⟨b,o,f,u,z,m,kids,rfl,hid,s,q,x,-,-,-,-,-⟩:=hK.get ((xr w).alloc (D0 9 n A a.length cap)) (j:=3) (by omega);simp only[fQ] at s;clear q x;have p:kd a 3= .mk f u kids:=Pe (by omega) hid.out;have l:J4 (.mk 9 n a)=if f=7 then 2 else if f=8 then 3 else 0:=by show rdx 9 a=_;unfold rdx;rw[p];rfl
   rw[l];clear l p hid g hK c;by_cases D:f=7
   · subst D
     rw[if_pos rfl];go_enter func133,ntmps133;go_wp2_with fail;go_ret;exact⟨rfl,(xr _).alloc _⟩
   by_cases B:f=8
   · subst B
     rw[if_neg (by decide),if_pos rfl];go_enter func133,ntmps133;go_wp2_with fail;go_ret;exact⟨rfl,(xr _).alloc _⟩
   have H:(f==7)=false:=beq_eq_false_iff_ne.2 D;have K:(f==8)=false:=beq_eq_false_iff_ne.2 B;rw[if_neg D,if_neg B];go_enter func133,ntmps133;go_wp2_with fail;go_ret;exact⟨rfl,(xr _).alloc _⟩
 · rw[show J4 (.mk 10 n a)=0 from rfl]
   clear g hK;go_enter func133,ntmps133;go_wp2_with fail;go_ret;exact⟨rfl,(xr _).alloc _⟩
 · rw[show J4 (.mk 11 n a)=0 from rfl]
   clear g hK;go_enter func133,ntmps133;go_wp2_with fail;go_ret;exact⟨rfl,(xr _).alloc _⟩
 · have c:a.length=3:=by have:(3:Int)=(a.length:Int):=g;omega
   have r:(1:Int) <(a.length:Int):=by omega
   obtain⟨b,o,f,u,z,m,kids,rfl,hid,s,q,x,-,-,-,-,-⟩:=hK.get ((xr w).alloc (D0 12 n A a.length cap)) (j:=1) (by omega);simp only[fQ] at s;clear q x;have p:kd a 1= .mk f u kids:=Pe (by omega) hid.out;have l:J4 (.mk 12 n a)=if f=11 then 4 else 0:=by show rdx 12 a=_;unfold rdx;rw[p];rfl
   rw[l];clear l p hid g hK c;by_cases y:f=11
   · subst y
     rw[if_pos rfl];go_enter func133,ntmps133;go_wp2_with fail;go_ret;exact⟨rfl,(xr _).alloc _⟩
   have I:(f==11)=false:=beq_eq_false_iff_ne.2 y;rw[if_neg y];go_enter func133,ntmps133;go_wp2_with fail;go_ret;exact⟨rfl,(xr _).alloc _⟩
 · rw[show J4 (.mk 13 n a)=0 from rfl]
   clear g hK;go_enter func133,ntmps133;go_wp2_with fail;go_ret;exact⟨rfl,(xr _).alloc _⟩
 · rw[show J4 (.mk 14 n a)=0 from rfl]
   clear g hK;go_enter func133,ntmps133;go_wp2_with fail;go_ret;exact⟨rfl,(xr _).alloc _⟩
 · have c:a.length=1:=by have:(1:Int)=(a.length:Int):=g;omega
   have r:(0:Int) <(a.length:Int):=by omega
   obtain⟨b,o,f,u,z,m,kids,rfl,hid,s,q,x,-,-,-,-,-⟩:=hK.get ((xr w).alloc (D0 15 n A a.length cap)) (j:=0) (by omega);simp only[dN,cX] at s;clear q x;have p:kd a 0= .mk f u kids:=Pe (by omega) hid.out;have l:J4 (.mk 15 n a)=if f=14 then 5 else 0:=by show rdx 15 a=_;unfold rdx;rw[p];rfl
   rw[l];clear l p hid g hK c;by_cases i:f=14
   · subst i
     rw[if_pos rfl];go_enter func133,ntmps133;go_wp2_with fail;go_ret;exact⟨rfl,(xr _).alloc _⟩
   have G:(f==14)=false:=beq_eq_false_iff_ne.2 i;rw[if_neg i];go_enter func133,ntmps133;go_wp2_with fail;go_ret;exact⟨rfl,(xr _).alloc _⟩
 · have c:a.length=1:=by have:(1:Int)=(a.length:Int):=g;omega
   have r:(0:Int) <(a.length:Int):=by omega
   obtain⟨b,o,f,u,z,m,kids,rfl,hid,s,q,x,-,-,-,-,-⟩:=hK.get ((xr w).alloc (D0 16 n A a.length cap)) (j:=0) (by omega);simp only[dN,cX] at s;clear q x;have p:kd a 0= .mk f u kids:=Pe (by omega) hid.out;have l:J4 (.mk 16 n a)=if f=14 then 6 else 0:=by show rdx 16 a=_;unfold rdx;rw[p];rfl
   rw[l];clear l p hid g hK c;by_cases i:f=14
   · subst i
     rw[if_pos rfl];go_enter func133,ntmps133;go_wp2_with fail;go_ret;exact⟨rfl,(xr _).alloc _⟩
   have G:(f==14)=false:=beq_eq_false_iff_ne.2 i;rw[if_neg i];go_enter func133,ntmps133;go_wp2_with fail;go_ret;exact⟨rfl,(xr _).alloc _⟩
theorem Ft(t:Tr)(d:Int)(hsh:I0 sigT t d=true)(w:aN)(v:aU)(E:Lies w t v):Calls prog 170 #[v] w fun e F=> e= .returned (j0 (J4 t))/\Ext w F:=by
 obtain⟨k,n,a⟩:=t;obtain⟨A,cap,rfl,hl,hc,hK⟩:=Lies.mk_iff.1 E;obtain⟨g,hk⟩:=iE hsh;unfold maxLen at hc;clear hsh E;rcases hk with rfl|rfl|rfl|rfl|rfl|rfl|rfl|rfl|rfl|rfl|rfl|rfl|rfl|rfl|rfl|rfl
 · rw[show J4 (.mk 1 n a)=0 from rfl]
   clear g hK;go_enter func170,ntmps170;go_wp2_with fail;go_ret;exact⟨rfl,(xr _).alloc _⟩
 · rw[show J4 (.mk 2 n a)=0 from rfl]
   clear g hK;go_enter func170,ntmps170;go_wp2_with fail;go_ret;exact⟨rfl,(xr _).alloc _⟩
 · rw[show J4 (.mk 3 n a)=0 from rfl]
   clear g hK;go_enter func170,ntmps170;go_wp2_with fail;go_ret;exact⟨rfl,(xr _).alloc _⟩
 · rw[show J4 (.mk 4 n a)=0 from rfl]
   clear g hK;go_enter func170,ntmps170;go_wp2_with fail;go_ret;exact⟨rfl,(xr _).alloc _⟩
 · have c:a.length=2:=by have:(2:Int)=(a.length:Int):=g;omega
   have r:(0:Int) <(a.length:Int):=by omega
   obtain⟨b,o,f,u,z,m,kids,rfl,hid,s,q,x,-,-,-,-,-⟩:=hK.get ((xr w).alloc (D0 5 n A a.length cap)) (j:=0) (by omega);simp only[dN,cX] at s;clear q x;have p:kd a 0= .mk f u kids:=Pe (by omega) hid.out;have l:J4 (.mk 5 n a)=if f=4 then 1 else 0:=by show rdx 5 a=_;unfold rdx;rw[p];rfl
   rw[l];clear l p hid g hK c;by_cases C:f=4
   · subst C
     rw[if_pos rfl];go_enter func170,ntmps170;go_wp2_with fail;go_ret;exact⟨rfl,(xr _).alloc _⟩
   have J:(f==4)=false:=beq_eq_false_iff_ne.2 C;rw[if_neg C];go_enter func170,ntmps170;go_wp2_with fail;go_ret;exact⟨rfl,(xr _).alloc _⟩
 · rw[show J4 (.mk 6 n a)=0 from rfl]
   clear g hK;go_enter func170,ntmps170;go_wp2_with fail;go_ret;exact⟨rfl,(xr _).alloc _⟩
 · rw[show J4 (.mk 7 n a)=0 from rfl]
   clear g hK;go_enter func170,ntmps170;go_wp2_with fail;go_ret;exact⟨rfl,(xr _).alloc _⟩
 · rw[show J4 (.mk 8 n a)=0 from rfl]
   clear g hK;go_enter func170,ntmps170;go_wp2_with fail;go_ret;exact⟨rfl,(xr _).alloc _⟩
 · have c:a.length=4:=by have:(4:Int)=(a.length:Int):=g;omega
   have r:(3:Int) <(a.length:Int):=by omega
   obtain⟨b,o,f,u,z,m,kids,rfl,hid,s,q,x,-,-,-,-,-⟩:=hK.get ((xr w).alloc (D0 9 n A a.length cap)) (j:=3) (by omega);simp only[fQ] at s;clear q x;have p:kd a 3= .mk f u kids:=Pe (by omega) hid.out;have l:J4 (.mk 9 n a)=if f=7 then 2 else if f=8 then 3 else 0:=by show rdx 9 a=_;unfold rdx;rw[p];rfl
   rw[l];clear l p hid g hK c;by_cases D:f=7
   · subst D
     rw[if_pos rfl];go_enter func170,ntmps170;go_wp2_with fail;go_ret;exact⟨rfl,(xr _).alloc _⟩
   by_cases B:f=8
   · subst B
     rw[if_neg (by decide),if_pos rfl];go_enter func170,ntmps170;go_wp2_with fail;go_ret;exact⟨rfl,(xr _).alloc _⟩
   have H:(f==7)=false:=beq_eq_false_iff_ne.2 D;have K:(f==8)=false:=beq_eq_false_iff_ne.2 B;rw[if_neg D,if_neg B];go_enter func170,ntmps170;go_wp2_with fail;go_ret;exact⟨rfl,(xr _).alloc _⟩
 · rw[show J4 (.mk 10 n a)=0 from rfl]
   clear g hK;go_enter func170,ntmps170;go_wp2_with fail;go_ret;exact⟨rfl,(xr _).alloc _⟩
 · rw[show J4 (.mk 11 n a)=0 from rfl]
   clear g hK;go_enter func170,ntmps170;go_wp2_with fail;go_ret;exact⟨rfl,(xr _).alloc _⟩
 · have c:a.length=3:=by have:(3:Int)=(a.length:Int):=g;omega
   have r:(1:Int) <(a.length:Int):=by omega
   obtain⟨b,o,f,u,z,m,kids,rfl,hid,s,q,x,-,-,-,-,-⟩:=hK.get ((xr w).alloc (D0 12 n A a.length cap)) (j:=1) (by omega);simp only[fQ] at s;clear q x;have p:kd a 1= .mk f u kids:=Pe (by omega) hid.out;have l:J4 (.mk 12 n a)=if f=11 then 4 else 0:=by show rdx 12 a=_;unfold rdx;rw[p];rfl
   rw[l];clear l p hid g hK c;by_cases y:f=11
   · subst y
     rw[if_pos rfl];go_enter func170,ntmps170;go_wp2_with fail;go_ret;exact⟨rfl,(xr _).alloc _⟩
   have I:(f==11)=false:=beq_eq_false_iff_ne.2 y;rw[if_neg y];go_enter func170,ntmps170;go_wp2_with fail;go_ret;exact⟨rfl,(xr _).alloc _⟩
 · rw[show J4 (.mk 13 n a)=0 from rfl]
   clear g hK;go_enter func170,ntmps170;go_wp2_with fail;go_ret;exact⟨rfl,(xr _).alloc _⟩
 · rw[show J4 (.mk 14 n a)=0 from rfl]
   clear g hK;go_enter func170,ntmps170;go_wp2_with fail;go_ret;exact⟨rfl,(xr _).alloc _⟩
 · have c:a.length=1:=by have:(1:Int)=(a.length:Int):=g;omega
   have r:(0:Int) <(a.length:Int):=by omega
   obtain⟨b,o,f,u,z,m,kids,rfl,hid,s,q,x,-,-,-,-,-⟩:=hK.get ((xr w).alloc (D0 15 n A a.length cap)) (j:=0) (by omega);simp only[dN,cX] at s;clear q x;have p:kd a 0= .mk f u kids:=Pe (by omega) hid.out;have l:J4 (.mk 15 n a)=if f=14 then 5 else 0:=by show rdx 15 a=_;unfold rdx;rw[p];rfl
   rw[l];clear l p hid g hK c;by_cases i:f=14
   · subst i
     rw[if_pos rfl];go_enter func170,ntmps170;go_wp2_with fail;go_ret;exact⟨rfl,(xr _).alloc _⟩
   have G:(f==14)=false:=beq_eq_false_iff_ne.2 i;rw[if_neg i];go_enter func170,ntmps170;go_wp2_with fail;go_ret;exact⟨rfl,(xr _).alloc _⟩
 · have c:a.length=1:=by have:(1:Int)=(a.length:Int):=g;omega
   have r:(0:Int) <(a.length:Int):=by omega
   obtain⟨b,o,f,u,z,m,kids,rfl,hid,s,q,x,-,-,-,-,-⟩:=hK.get ((xr w).alloc (D0 16 n A a.length cap)) (j:=0) (by omega);simp only[dN,cX] at s;clear q x;have p:kd a 0= .mk f u kids:=Pe (by omega) hid.out;have l:J4 (.mk 16 n a)=if f=14 then 6 else 0:=by show rdx 16 a=_;unfold rdx;rw[p];rfl
   rw[l];clear l p hid g hK c;by_cases i:f=14
   · subst i
     rw[if_pos rfl];go_enter func170,ntmps170;go_wp2_with fail;go_ret;exact⟨rfl,(xr _).alloc _⟩
   have G:(f==14)=false:=beq_eq_false_iff_ne.2 i;rw[if_neg i];go_enter func170,ntmps170;go_wp2_with fail;go_ret;exact⟨rfl,(xr _).alloc _⟩
theorem i1.setNew{L:List Nat}{a w:aN}(h:i1 L a w){p:Addr}(b:a.heap.size<=p.block)(u:aU):i1 L a (w.setCell p u):=
 ⟨h.os,h.tape,h.output,by simpa using h.size,fun i hi hn=>(aM w p u i (by omega)).trans (h.block i hi hn)⟩
theorem i1.blk{L:List Nat}{a w:aN}{g:Nat}{o:Obj}(h:i1 L a w)(b:a.heap[g]? =some o)(hn: ¬g∈L):w.heap[g]? =some o:=(h.block g (D1 b) hn).trans b
theorem VD(n:Int)(w:aN):Calls prog 58 #[j0 n] w fun e a=> e= .returned (m0 1 n none 0 0)/\Ext w a:=by
 go_enter func58,ntmps58;go_wp2_with fail;exact aQ (v:= m0 1 n none 0 0) (by simp[aS,results58,go_sem]) rfl ⟨rfl,(xr w).alloc _⟩
theorem mw(k n:Int)(a:List Tr)(A:Option Addr)(cap:Nat)(w:aN)(t:Lies w (.mk k n a) (m0 k n A a.length cap)):
 Calls prog 137 #[m0 k n A a.length cap] w fun e m=>(if valid sigT (.mk k n a)=true then e= .returned (.tuple #[m0 k n A a.length cap,.bool true]) else e= .returned (.tuple #[m0 0 0 none 0 0,.bool false]))/\Ext w m:=by
 have g:=hdq (fun W (q:Ext w W)=> Qo _ W _ (t.ext q));generalize valid sigT (.mk k n a)=s at g⊢;have hE:=((xr w).alloc (D0 k n A a.length cap)).alloc M0;obtain⟨j,i,o⟩:=blk2 (xr ((w.alloc (D0 k n A a.length cap)).alloc M0));cases s with
 |true=>
  simp only[if_true];go_enter func137,ntmps137;go_wp2_with fail;refine(g.out _ hE).mono ?_;rintro e l ⟨rfl,b⟩;obtain⟨x,z,y,-,-,-⟩:=own3 (b.blk j);obtain⟨f,d,c,u,p,r⟩:=own3 (b.blk i);go_wp2_with fail;exact aQ (v:= .tuple #[m0 k n A a.length cap,.bool true]) (by simp[aS,results137,go_sem,f,d,c]) rfl ⟨rfl,((((hE.trans b).setCell (by simp) _).setCell (by simp) _).setCell (by simp) _)⟩
 |false=>
  simp only[Bool.false_eq_true,if_false];go_enter func137,ntmps137;go_wp2_with fail;refine(g.out _ hE).mono ?_;rintro e l ⟨rfl,b⟩;obtain⟨f,d,c,u,p,r⟩:=own3 (b.blk i);go_wp2_with fail;exact aQ (v:= .tuple #[m0 0 0 none 0 0,.bool false]) (by simp[aS,results137,go_sem,f,d,c]) rfl ⟨rfl,((((hE.trans b).setCell (by simp) _).setCell (by simp) _).setCell (by simp) _)⟩
def qL(b d a B:Nat)(c y:Int)(w:aN)(s:Bool):Prop:=(b < B/\d < B/\a < B)/\w.heap[b]? =some (.cells #[.int .i64 c] 3 (0,0))/\w.heap[d]? =some (.cells #[.int .i64 y] 3 (0,0))/\w.heap[a]? =some (.cells #[.bool s] 4 (0,0))
theorem nw(a:aN)(r z d B:Nat)(c y:Int)(J:r≠d)(H:z≠d)(hy0:0<=y)(hy1:y<=1000)(T:0<=c)(L:c<=1000):Rk a r z d [d] (qL r z d B c y) (nm y c) (hsh y c):=by
 intro w s n b ha R O8 R7 N M;obtain⟨E,k,l,i⟩:=R;have Z:=E1 k 0;have c2:=E1 l 0;have c3:=E1 i 0;have f3:=mc i 0;have l1:=D1 k;have l2:=D1 l;have l3:=D1 i;have G:=hdq k;have D:=hdq l;have C:=hdq i;clear k l i;have I:=hdq (fun m W=> VD m W);by_cases h:c<=n - b
 · have X:decide (c<=n - b)=true:=decide_eq_true h
   obtain⟨F,Q⟩: ∃x,decide (c<=n+y - b)=x:=⟨_,rfl⟩;obtain⟨K,V⟩: ∃x,decide (n+y<=20)=x:=⟨_,rfl⟩;have f:nm y c n b= .mk 1 (n+y) []:=by unfold nm;rw[if_pos h]
   have j:hsh y c n b=(F && K):=by unfold hsh;rw[if_pos h,Q,V]
   rw[f,j];clear f j h;cases s <;> cases F <;> cases K
   all_goals go_enter func136,ntmps136
   all_goals go_wp2_with fail
   all_goals(
    refine(I.out _ _).mono ?_;rintro e P ⟨rfl,f⟩;have g:=f.newBlk;simp only[World.size_setCell] at g;obtain⟨t,q,o,Y,S,U⟩:=own3 g;have o1:=fun u=>(((i1.refl [d] w).setCell (p:=⟨d,0,none⟩) (by simp) u).alloc M0)
    have o2:=(o1 _).trans (oE f);have O:=fun u=> b6 C.out 0 u
    have A:=f.blk ((Below.heap_alloc _ _ _ (by simp;omega)).trans (O _));clear g;go_wp2_with fail;refine aQ (v:= m0 1 (n+y) none 0 0) (by simp[aS,results136,go_sem,t,q,o]) rfl ⟨_,rfl,W0.leaf _ _ _ _ _, ?_,E, ?_, ?_, ?_⟩
    · exact(((o2.setNew (by simp) _).setNew (by simp) _).setNew (by simp) _)
    · exact(((o2.setNew (by simp) _).setNew (by simp) _).setNew (by simp) _).blk G.out (by simpa using J)
    · exact(((o2.setNew (by simp) _).setNew (by simp) _).setNew (by simp) _).blk D.out (by simpa using H)
    · rw[aM _ _ _ _ (by show d≠w.heap.size;omega),aM _ _ _ _ (by show d≠w.heap.size;omega),aM _ _ _ _ (by show d≠w.heap.size;omega),A]
      rfl)
 · have X:decide (c<=n - b)=false:=decide_eq_false h
   have f:nm y c n b= .mk 1 n []:=by unfold nm;rw[if_neg h]
   have j:hsh y c n b=true:=by unfold hsh;rw[if_neg h]
   rw[f,j,Bool.and_true];clear f j h;go_enter func136,ntmps136;go_wp2_with fail;refine(I.out _ _).mono ?_;rintro e P ⟨rfl,f⟩;have g:=f.newBlk;obtain⟨t,q,o,Y,S,U⟩:=own3 g;have o2:=((i1.refl [d] w).alloc M0).trans (oE f);have A:=(Ext.blk f.pre C.out);clear g;go_wp2_with fail;refine aQ (v:= m0 1 n none 0 0) (by simp[aS,results136,go_sem,t,q,o]) rfl ⟨_,rfl,W0.leaf _ _ _ _ _, ?_,E, ?_, ?_, ?_⟩
   · exact(((o2.setNew (by simp) _).setNew (by simp) _).setNew (by simp) _)
   · exact(((o2.setNew (by simp) _).setNew (by simp) _).setNew (by simp) _).blk G.out (by simpa using J)
   · exact(((o2.setNew (by simp) _).setNew (by simp) _).setNew (by simp) _).blk D.out (by simpa using H)
   · rw[aM _ _ _ _ (by show d≠w.heap.size;omega),aM _ _ _ _ (by show d≠w.heap.size;omega),aM _ _ _ _ (by show d≠w.heap.size;omega),A]
def okT(t:Tr):Tr:=if valid sigT t=true then t else D2
theorem aD(t:Tr)(y c:Int)(w:aN)(v:aU)(d6:Lies w t v)(hv:valid sigT t=true)(hy0:0<=y)(hy1:y<=1000)(hc0:0<=c)(Z:c<=1000):
 Calls prog 102 #[v,j0 y,j0 c] w fun e w'=> ∃u,e= .returned (.tuple #[u,.bool (valid sigT (shfT y t c))])/\W0 w w' 25 (okT (shfT y t c)) u/\Ext w w':=by
 obtain⟨hs,D4⟩:=N4 hv;obtain⟨g,j⟩:=rH (c:=c) hy0 hv;have vq:=fun W (Y:Ext w W) C q d (hp:w.heap.size<=d) (G8:C≠d) (oz:q≠d) (H:W.heap[C]? =some (.cells #[j0 c] 3 (0,0))) (I:W.heap[q]? =some (.cells #[j0 y] 3 (0,0))) (S:W.heap[d]? =some (.cells #[.bool true] 4 (0,0)))=>
  gI t w W v 0 30 C q d [d] W.heap.size (qL C q d W.heap.size c y) (nm y c) (hsh y c) true hs d6 Y (fun x hx=> by rw[List.mem_singleton.1 hx];exact⟨hp,D1 S⟩) (by omega) (by omega)
   (nw w C q d _ c y G8 oz hy0 hy1 hc0 Z) (fun G w2 s h i=>⟨h.1,i.blk h.2.1,i.blk h.2.2.1,i.blk h.2.2.2⟩) (Nat.le_refl _) (fun G w2 s h i hl=>⟨h.1,(i C h.1.1).trans h.2.1,(i q h.1.2.1).trans h.2.2.1,(i d h.1.2.2).trans h.2.2.2⟩) ⟨⟨D1 H,D1 I,D1 S⟩,H,I,S⟩
 rw[j] at g;simp only[j,Bool.true_and] at vq;have K:=hdq vq;clear vq j hs;obtain⟨U,m⟩: ∃U,U=valid sigT (shfT y t c):=⟨_,rfl⟩;obtain⟨N,a⟩: ∃N,N=okT (shfT y t c):=⟨_,rfl⟩;rw[<-m,<-a];generalize shfT y t c=r at g K m a;generalize k9 (hsh y c) t 0=f at g K;obtain⟨k,n,J⟩:=t;obtain⟨A,cap,rfl,hl,hc,hK⟩:=Lies.mk_iff.1 d6;have hE:=((((xr w).alloc (D0 k n A J.length cap)).alloc (.cells #[j0 y] 3)).alloc (.cells #[j0 c] 3)).alloc M0;have se:=wo ((xr ((((w.alloc (D0 k n A J.length cap)).alloc (.cells #[j0 y] 3)).alloc (.cells #[j0 c] 3)).alloc M0)).alloc (.cells #[.bool true] 4));have O:=heap_alloc_new ((((w.alloc (D0 k n A J.length cap)).alloc (.cells #[j0 y] 3)).alloc (.cells #[j0 c] 3)).alloc M0) (.cells #[.bool true] 4);have X6:=hE.alloc (.cells #[.bool true] 4);have hsz:(((((w.alloc (D0 k n A J.length cap)).alloc (.cells #[j0 y] 3)).alloc (.cells #[j0 c] 3)).alloc M0).alloc (.cells #[.bool true] 4)).heap.size=w.heap.size+1+1+1+1+1:=by simp
 obtain⟨F,l,p,o,-⟩:=se;simp only[World.size_alloc] at O;go_enter func102,ntmps102;go_wp2_with fail;generalize World.alloc _ _=wa at X6 F l p o O hsz;clear hE;refine(K.out wa X6 _ _ _ (by omega) (by omega) (by omega) p l O).mono ?_;rintro e G ⟨u,rfl,hM,V,hI⟩;obtain⟨z,E,B⟩:=r;obtain⟨P,M,rfl,hl2,hc2,Km⟩:=W0.mk_iff.1 hM;have L:=V.blk o (by simp);have i3:=hI.2.2.2;have hc5:=E1 i3 0;have Kz:=D1 i3;have aa:=D1 L;have Lq:=V.size;have T:Ext w G:=V.ext X6 (fun x hx=> by rw[List.mem_singleton.1 hx];omega);obtain⟨s0,s1,s2,f0,f1,f2⟩:=own3 L;clear K F l p o O hI i3;have hx:=(xr G).alloc (D0 z E P B.length M);cases f with
 |false=>
  rw[Bool.false_and] at g;have H:U=false:=by rw[m,<-g]
  have I:N=D2:=by rw[a];unfold okT;rw[<-g];rfl
  have R:=hdq H;have Q:=hdq I;clear g m a H I;go_wp2_with fail;refine aQ (v:= .tuple #[m0 0 0 none 0 0,.bool false]) (by simp[aS,results102,go_sem,s0,s1,s2,aa]) rfl ⟨m0 0 0 none 0 0,by rw[R.out],by rw[Q.out];exact W0.leaf _ _ _ _ _, ?_⟩;exact(((T.setCell (by simp;omega) _).setCell (by simp;omega) _).setCell (by simp;omega) _).alloc _
 |true=>
  rw[Bool.true_and] at g;have HV:=hdq (fun W (Y:Ext G W)=> mw z E B P M W (hM.lies.ext Y));generalize ft:valid sigT (.mk z E B)=b at HV;have hO:N=if b=true then .mk z E B else D2:=by rw[a];unfold okT;rw[ft]
  rw[ft] at m;have R:=hdq m;have Q:=hdq hO;clear hO g ft a m;go_wp2_with fail;refine(HV.out _ hx).mono ?_;cases b with
  |true=>
   simp only[if_true];rintro e w2 ⟨rfl,D⟩;obtain⟨X,q1,q2,g0,g1,g2⟩:=own3 ((hx.trans D).blk L);go_wp2_with fail;refine aQ (v:= .tuple #[m0 z E P B.length M,.bool true]) (by simp[aS,results102,go_sem,X,q1,q2]) rfl ⟨m0 z E P B.length M,by rw[R.out], ?_, ?_⟩
   · rw[Q.out]
     simp only[if_true];exact W0.since (((hM.ext (hx.trans D)).after ((((Ua.refl _ _).setCell (by simp;omega) _).setCell (by simp;omega) _).setCell (by simp;omega) _))) (by omega)
   · exact(((((T.trans hx).trans D).setCell (by simp;omega) _).setCell (by simp;omega) _).setCell (by simp;omega) _)
  |false=>
   simp only[Bool.false_eq_true,if_false];rintro e w2 ⟨rfl,D⟩;obtain⟨X,q1,q2,g0,g1,g2⟩:=own3 ((hx.trans D).blk L);go_wp2_with fail;refine aQ (v:= .tuple #[m0 0 0 none 0 0,.bool false]) (by simp[aS,results102,go_sem,X,q1,q2]) rfl ⟨m0 0 0 none 0 0,by rw[R.out],by rw[Q.out];exact W0.leaf _ _ _ _ _, ?_⟩;exact(((((T.trans hx).trans D).setCell (by simp;omega) _).setCell (by simp;omega) _).setCell (by simp;omega) _)
