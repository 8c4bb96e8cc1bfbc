/-
  Lemmas towards the law, 1: MTm, MPar, MHead.
-/
set_option linter.unusedVariables false
namespace Go.Proofs.YtbnkbepgmenblaaGreatDoor.M
inductive Tm where
 |var (n:Nat)
 |sort (n:Nat)
 |pi (A B:Tm)
 |lam (A t:Tm)
 |app (f a:Tm)
 |nat
 |zero
 |succ (a:Tm)
 |elim (p z s a:Tm)
 |id (T a b:Tm)
 |refl (a:Tm)
 |move (p e a:Tm)
 |sg (A B:Tm)
 |pair (T a b:Tm)
 |fst (a:Tm)
 |snd (a:Tm)
 deriving DecidableEq
namespace Tm
def upr(r:Nat->Nat):Nat->Nat
 |0=> 0
 |n+1=> r n+1
def ren(r:Nat->Nat):Tm->Tm
 |var n=> var (r n)
 |sort n=> sort n
 |pi A B=> pi (A.ren r) (B.ren (upr r))
 |lam A t=> lam (A.ren r) (t.ren (upr r))
 |app f a=> app (f.ren r) (a.ren r)
 |nat=> nat
 |zero=> zero
 |succ a=> succ (a.ren r)
 |elim p z s a=> elim (p.ren r) (z.ren r) (s.ren r) (a.ren r)
 |id T a b=> id (T.ren r) (a.ren r) (b.ren r)
 |refl a=> refl (a.ren r)
 |move p e a=> move (p.ren r) (e.ren r) (a.ren r)
 |sg A B=> sg (A.ren r) (B.ren (upr r))
 |pair T a b=> pair (T.ren r) (a.ren r) (b.ren r)
 |fst a=> fst (a.ren r)
 |snd a=> snd (a.ren r)
abbrev wk(t:Tm):Tm:=t.ren Nat.succ
def ups(s:Nat->Tm):Nat->Tm
 |0=> var 0
 |n+1=> wk (s n)
def sub(s:Nat->Tm):Tm->Tm
 |var n=> s n
 |sort n=> sort n
 |pi A B=> pi (A.sub s) (B.sub (ups s))
 |lam A t=> lam (A.sub s) (t.sub (ups s))
 |app f a=> app (f.sub s) (a.sub s)
 |nat=> nat
 |zero=> zero
 |succ a=> succ (a.sub s)
 |elim p z s' a=> elim (p.sub s) (z.sub s) (s'.sub s) (a.sub s)
 |id T a b=> id (T.sub s) (a.sub s) (b.sub s)
 |refl a=> refl (a.sub s)
 |move p e a=> move (p.sub s) (e.sub s) (a.sub s)
 |sg A B=> sg (A.sub s) (B.sub (ups s))
 |pair T a b=> pair (T.sub s) (a.sub s) (b.sub s)
 |fst a=> fst (a.sub s)
 |snd a=> snd (a.sub s)
def cns(u:Tm)(s:Nat->Tm):Nat->Tm
 |0=> u
 |n+1=> s n
def inst(t u:Tm):Tm:=t.sub (cns u var)
theorem upr_id:upr (fun n=> n)=fun n=> n:=by
 funext n;cases n <;> rfl
theorem j210(r q:Nat->Nat):upr (fun n=> r (q n))=fun n=> upr r (upr q n):=by
 funext n;cases n <;> rfl
theorem ups_var:ups var=var:=by
 funext n;cases n <;> rfl
theorem ren_ren(t:Tm): ∀(r q:Nat->Nat),(t.ren q).ren r=t.ren (fun n=> r (q n)):=by
 induction t <;> intro r q <;> simp only[ren, *] <;> simp only[j210]
theorem ups_upr(s:Nat->Tm)(q:Nat->Nat):(fun n=> ups s (upr q n))=ups (fun n=> s (q n)):=by
 funext n;cases n <;> rfl
theorem q81(t:Tm): ∀(s:Nat->Tm) (q:Nat->Nat),(t.ren q).sub s=t.sub (fun n=> s (q n)):=by
 induction t <;> intro s q <;> simp only[ren,sub, *] <;> simp only[ups_upr]
theorem ren_ups(s:Nat->Tm)(r:Nat->Nat):(fun n=>(ups s n).ren (upr r))=ups (fun n=>(s n).ren r):=by
 funext n
 cases n with
 |zero=> rfl
 |succ n=>
  show((s n).ren Nat.succ).ren (upr r)=((s n).ren r).ren Nat.succ
  rw[ren_ren,ren_ren]
  rfl
theorem j134(t:Tm): ∀(s:Nat->Tm) (r:Nat->Nat),(t.sub s).ren r=t.sub (fun n=>(s n).ren r):=by
 induction t <;> intro s r <;> simp only[ren,sub, *] <;> simp only[ren_ups]
theorem ups_ups(s q:Nat->Tm):(fun n=>(ups q n).sub (ups s))=ups (fun n=>(q n).sub s):=by
 funext n
 cases n with
 |zero=> rfl
 |succ n=>
  show((q n).ren Nat.succ).sub (ups s)=((q n).sub s).ren Nat.succ
  rw[q81,j134]
  rfl
theorem q111(t:Tm): ∀(s q:Nat->Tm),(t.sub q).sub s=t.sub (fun n=>(q n).sub s):=by
 induction t <;> intro s q <;> simp only[sub, *] <;> simp only[ups_ups]
theorem y17(t:Tm):t.sub var=t:=by
 induction t <;> simp only[sub,ups_var, *]
theorem ren_id(t:Tm):t.ren (fun n=> n)=t:=by
 induction t <;> simp only[ren,upr_id, *]
theorem y143(r:Nat->Nat):ups (fun n=> var (r n))=fun n=> var (upr r n):=by
 funext n;cases n <;> rfl
theorem q51(t:Tm): ∀r:Nat->Nat,t.ren r=t.sub (fun n=> var (r n)):=by
 induction t <;> intro r <;> simp only[ren,sub, *] <;> simp only[y143]
theorem y75(t u:Tm)(s:Nat->Tm):(wk t).sub (cns u s)=t.sub s:=by
 rw[q81];rfl
theorem q118(t u:Tm):(wk t).inst u=t:=by
 unfold inst;rw[y75,y17]
theorem cns_sub(u:Tm)(q s:Nat->Tm):(fun n=>(cns u q n).sub s)=cns (u.sub s) (fun n=>(q n).sub s):=by
 funext n;cases n <;> rfl
theorem y175(u:Tm)(q s:Nat->Tm):(fun n=>(ups q n).sub (cns u s))=cns u (fun n=>(q n).sub s):=by
 funext n
 cases n with
 |zero=> rfl
 |succ n=> exact y75 _ _ _
theorem y29(t u:Tm)(s:Nat->Tm):(t.inst u).sub s=(t.sub (ups s)).inst (u.sub s):=by
 unfold inst;rw[q111,q111,cns_sub,y175]
 congr 1
 funext n
 cases n with
 |zero=> rfl
 |succ n=> exact(y17 (s n)).symm
theorem j51(t u:Tm)(s:Nat->Tm):(t.sub (ups s)).inst u=t.sub (cns u s):=by
 unfold inst;rw[q111,y175]
 congr 1
 funext n
 cases n with
 |zero=> rfl
 |succ n=> exact y17 (s n)
theorem j88(t u:Tm)(r:Nat->Nat):(t.inst u).ren r=(t.ren (upr r)).inst (u.ren r):=by
 rw[q51,y29,q51 t,q51 u,y143]
theorem q139(t:Tm)(s:Nat->Tm):(wk t).sub (ups s)=wk (t.sub s):=by
 rw[q81,wk,j134];rfl
theorem j188(t:Tm)(r:Nat->Nat):(wk t).ren (upr r)=wk (t.ren r):=by
 rw[ren_ren,wk,ren_ren];rfl
end Tm
end Go.Proofs.YtbnkbepgmenblaaGreatDoor.M
namespace Go.Proofs.YtbnkbepgmenblaaGreatDoor.M
open Tm
inductive Par:Tm->Tm->Prop where
 |var (n):Par (var n) (var n)
 |sort (n):Par (sort n) (sort n)
 |pi {A A' B B'}:Par A A'->Par B B'->Par (pi A B) (pi A' B')
 |lam {A A' B B'}:Par A A'->Par B B'->Par (lam A B) (lam A' B')
 |app {A A' B B'}:Par A A'->Par B B'->Par (app A B) (app A' B')
 |nat:Par nat nat
 |zero:Par zero zero
 |succ {a a'}:Par a a'->Par (succ a) (succ a')
 |elim {p p' z z' s s' a a'}:Par p p'->Par z z'->Par s s'->Par a a'->Par (elim p z s a) (elim p' z' s' a')
 |id {T T' a a' b b'}:Par T T'->Par a a'->Par b b'->Par (Tm.id T a b) (Tm.id T' a' b')
 |refl {a a'}:Par a a'->Par (refl a) (refl a')
 |move {T T' a a' b b'}:Par T T'->Par a a'->Par b b'->Par (move T a b) (move T' a' b')
 |sg {A A' B B'}:Par A A'->Par B B'->Par (sg A B) (sg A' B')
 |pair {T T' a a' b b'}:Par T T'->Par a a'->Par b b'->Par (pair T a b) (pair T' a' b')
 |fst {a a'}:Par a a'->Par (fst a) (fst a')
 |snd {a a'}:Par a a'->Par (snd a) (snd a')
 |beta {A b b' a a'}:Par b b'->Par a a'->Par (app (lam A b) a) (b'.inst a')
 |ez {p z z' s}:Par z z'->Par (elim p z s zero) z'
 |es {p p' z z' s s' a a'}:Par p p'->Par z z'->Par s s'->Par a a'->Par (elim p z s (succ a)) (app (app s' a') (elim p' z' s' a'))
 |mr {p b a a'}:Par a a'->Par (move p (refl b) a) a'
 |fp {T a a' b}:Par a a'->Par (fst (pair T a b)) a'
 |sp {T a b b'}:Par b b'->Par (snd (pair T a b)) b'
theorem Par.rfl': ∀t:Tm,Par t t:=by
 intro t;induction t <;> constructor <;> assumption
theorem Par.ren{t t':Tm}(h:Par t t'): ∀r,Par (t.ren r) (t'.ren r):=by
 induction h with
 |beta h1 h2 i1 i2=>
  intro r;rw[j88];exact .beta (i1 _) (i2 _)
 |_=> intro r;simp only[Tm.ren];constructor <;> solve_by_elim
theorem Par.ups{s s':Nat->Tm}(h: ∀n,Par (s n) (s' n)): ∀n,Par (ups s n) (ups s' n):=by
 intro n;cases n with
 |zero=> exact .var 0
 |succ n=> exact(h n).ren _
theorem Par.sub{t t':Tm}(h:Par t t'): ∀{s s':Nat->Tm},(∀n,Par (s n) (s' n))->Par (t.sub s) (t'.sub s'):=by
 induction h with
 |var n=> intro s s' hs;exact hs n
 |beta h1 h2 i1 i2=>
  intro s s' hs;rw[y29];exact .beta (i1 (Par.ups hs)) (i2 hs)
 |pi h1 h2 i1 i2=> intro s s' hs;exact .pi (i1 hs) (i2 (Par.ups hs))
 |lam h1 h2 i1 i2=> intro s s' hs;exact .lam (i1 hs) (i2 (Par.ups hs))
 |sg h1 h2 i1 i2=> intro s s' hs;exact .sg (i1 hs) (i2 (Par.ups hs))
 |_=> intro s s' hs;simp only[Tm.sub];constructor <;> solve_by_elim
theorem Par.cns{u u':Tm}(h:Par u u'): ∀n,Par (Tm.cns u Tm.var n) (Tm.cns u' Tm.var n):=by
 intro n;cases n with
 |zero=> exact h
 |succ n=> exact .var n
theorem Par.inst{t t' u u':Tm}(h:Par t t')(k:Par u u'):Par (t.inst u) (t'.inst u'):=h.sub (Par.cns k)
def dev:Tm->Tm
 | .app (.lam _ b) a=>(dev b).inst (dev a)
 | .elim _ z _ .zero=> dev z
 | .elim p z s (.succ a)=> .app (.app (dev s) (dev a)) (.elim (dev p) (dev z) (dev s) (dev a))
 | .move _ (.refl _) a=> dev a
 | .fst (.pair _ a _)=> dev a
 | .snd (.pair _ _ b)=> dev b
 | .var n=> .var n
 | .sort n=> .sort n
 | .pi A B=> .pi (dev A) (dev B)
 | .lam A t=> .lam (dev A) (dev t)
 | .app f a=> .app (dev f) (dev a)
 | .nat=> .nat
 | .zero=> .zero
 | .succ a=> .succ (dev a)
 | .elim p z s a=> .elim (dev p) (dev z) (dev s) (dev a)
 | .id T a b=> .id (dev T) (dev a) (dev b)
 | .refl a=> .refl (dev a)
 | .move p e a=> .move (dev p) (dev e) (dev a)
 | .sg A B=> .sg (dev A) (dev B)
 | .pair T a b=> .pair (dev T) (dev a) (dev b)
 | .fst a=> .fst (dev a)
 | .snd a=> .snd (dev a)
theorem Par.tri{t t':Tm}(h:Par t t'):Par t' (dev t):=by
 induction h with
 |beta h1 h2 i1 i2=> exact i1.inst i2
 |ez h i=> exact i
 |es h1 h2 h3 h4 i1 i2 i3 i4=> exact .app (.app i3 i4) (.elim i1 i2 i3 i4)
 |mr h i=> exact i
 |fp h i=> exact i
 |sp h i=> exact i
 | @app A A' B B' h1 h2 i1 i2=>
  cases A with
  |lam X b=>
   cases h1 with
   |lam k1 k2=>
    simp only[dev] at i1⊢;cases i1 with
    |lam j1 j2=> exact .beta j2 i2
  |_=> simp only[dev] at i1⊢;exact .app i1 i2
 | @elim p p' z z' s s' a a' h1 h2 h3 h4 i1 i2 i3 i4=>
  cases a with
  |zero=>
   cases h4
   simp only[dev];exact .ez i2
  |succ b=>
   cases h4 with
   |succ k=>
    simp only[dev] at i4⊢;cases i4 with
    |succ j=> exact .es i1 i2 i3 j
  |_=> simp only[dev] at i4⊢;exact .elim i1 i2 i3 i4
 | @move p p' e e' a a' h1 h2 h3 i1 i2 i3=>
  cases e with
  |refl b=>
   cases h2 with
   |refl k=>
    simp only[dev] at i2⊢;exact .mr i3
  |_=> simp only[dev] at i2⊢;exact .move i1 i2 i3
 | @fst a a' h i=>
  cases a with
  |pair T x y=>
   cases h with
   |pair k1 k2 k3=>
    simp only[dev] at i⊢;cases i with
    |pair j1 j2 j3=> exact .fp j2
  |_=> simp only[dev] at i⊢;exact .fst i
 | @snd a a' h i=>
  cases a with
  |pair T x y=>
   cases h with
   |pair k1 k2 k3=>
    simp only[dev] at i⊢;cases i with
    |pair j1 j2 j3=> exact .sp j3
  |_=> simp only[dev] at i⊢;exact .snd i
 |_=> simp only[dev];constructor <;> assumption
inductive Red:Tm->Tm->Prop where
 |refl (t):Red t t
 |step {a b c}:Par a b->Red b c->Red a c
theorem Red.one{a b:Tm}(h:Par a b):Red a b:= .step h (.refl b)
theorem Red.trans{a b c:Tm}(h:Red a b)(k:Red b c):Red a c:=by
 induction h with
 |refl=> exact k
 |step h1 _ ih=> exact .step h1 (ih k)
theorem Red.strip{a b:Tm}(h:Red a b): ∀{c:Tm},Par a c-> ∃d,Par b d/\Red c d:=by
 induction h with
 |refl t=> intro c hc;exact⟨c,hc,.refl c⟩
 | @step a b d h1 h2 ih=>
  intro c hc;obtain⟨e,Cq,vy⟩:=ih (c:=dev a) h1.tri;exact⟨e,Cq,.step hc.tri vy⟩
theorem Red.meet{a b:Tm}(h:Red a b): ∀{c:Tm},Red a c-> ∃d,Red b d/\Red c d:=by
 induction h with
 |refl t=> intro c hc;exact⟨c,hc,.refl c⟩
 | @step a b d h1 h2 ih=>
  intro c hc;obtain⟨e,Cq,vy⟩:=hc.strip h1;obtain⟨f,Z1,hf2⟩:=ih vy;exact⟨f,Z1,.step Cq hf2⟩
theorem Red.map{F:Tm->Tm}(hF: ∀{a b},Par a b->Par (F a) (F b)){a b:Tm}(h:Red a b):Red (F a) (F b):=by
 induction h with
 |refl=> exact .refl _
 |step h1 _ ih=> exact .step (hF h1) ih
theorem Red.sub{a b:Tm}(h:Red a b)(s:Nat->Tm):Red (a.sub s) (b.sub s):=h.map (F:=fun t=> t.sub s) fun h=> h.sub fun n=> Par.rfl' _
theorem Red.ren{a b:Tm}(h:Red a b)(r:Nat->Nat):Red (a.ren r) (b.ren r):=h.map (F:=fun t=> t.ren r) fun h=> h.ren r
def Cv(a b:Tm):Prop:= ∃c,Red a c/\Red b c
theorem Cv.rfl'(a:Tm):Cv a a:=⟨a,.refl a,.refl a⟩
theorem Cv.symm{a b:Tm}(h:Cv a b):Cv b a:=by obtain⟨c,h1,h2⟩:=h;exact⟨c,h2,h1⟩
theorem Cv.trans{a b c:Tm}(h:Cv a b)(k:Cv b c):Cv a c:=by
 obtain⟨d,h1,h2⟩:=h;obtain⟨e,k1,k2⟩:=k;obtain⟨f,f1,f2⟩:=h2.meet k1;exact⟨f,h1.trans f1,k2.trans f2⟩
theorem Red.cv{a b:Tm}(h:Red a b):Cv a b:=⟨b,h,.refl b⟩
theorem Par.cv{a b:Tm}(h:Par a b):Cv a b:=(Red.one h).cv
theorem Cv.map{F:Tm->Tm}(hF: ∀{a b},Par a b->Par (F a) (F b)){a b:Tm}(h:Cv a b):Cv (F a) (F b):=by
 obtain⟨c,h1,h2⟩:=h;exact⟨F c,h1.map hF,h2.map hF⟩
theorem Cv.sub{a b:Tm}(h:Cv a b)(s:Nat->Tm):Cv (a.sub s) (b.sub s):=h.map (F:=fun t=> t.sub s) fun h=> h.sub fun n=> Par.rfl' _
theorem Cv.ren{a b:Tm}(h:Cv a b)(r:Nat->Nat):Cv (a.ren r) (b.ren r):=h.map (F:=fun t=> t.ren r) fun h=> h.ren r
theorem Cv.pi{A A' B B':Tm}(h:Cv A A')(k:Cv B B'):Cv (.pi A B) (.pi A' B'):=
 (h.map (F:=fun x=> .pi x B) fun h=> .pi h (Par.rfl' _)).trans (k.map (F:=fun x=> .pi A' x) fun h=> .pi (Par.rfl' _) h)
theorem Cv.sg{A A' B B':Tm}(h:Cv A A')(k:Cv B B'):Cv (.sg A B) (.sg A' B'):=
 (h.map (F:=fun x=> .sg x B) fun h=> .sg h (Par.rfl' _)).trans (k.map (F:=fun x=> .sg A' x) fun h=> .sg (Par.rfl' _) h)
theorem Cv.lam{A A' B B':Tm}(h:Cv A A')(k:Cv B B'):Cv (.lam A B) (.lam A' B'):=
 (h.map (F:=fun x=> .lam x B) fun h=> .lam h (Par.rfl' _)).trans (k.map (F:=fun x=> .lam A' x) fun h=> .lam (Par.rfl' _) h)
theorem Cv.app{A A' B B':Tm}(h:Cv A A')(k:Cv B B'):Cv (.app A B) (.app A' B'):=
 (h.map (F:=fun x=> .app x B) fun h=> .app h (Par.rfl' _)).trans (k.map (F:=fun x=> .app A' x) fun h=> .app (Par.rfl' _) h)
theorem Cv.id{T T' a a' b b':Tm}(h:Cv T T')(k:Cv a a')(l:Cv b b'):Cv (.id T a b) (.id T' a' b'):=
 ((h.map (F:=fun x=> .id x a b) fun h=> .id h (Par.rfl' _) (Par.rfl' _)).trans (k.map (F:=fun x=> .id T' x b) fun h=> .id (Par.rfl' _) h (Par.rfl' _))).trans (l.map (F:=fun x=> .id T' a' x) fun h=> .id (Par.rfl' _) (Par.rfl' _) h)
theorem Cv.pair{T T' a a' b b':Tm}(h:Cv T T')(k:Cv a a')(l:Cv b b'):Cv (.pair T a b) (.pair T' a' b'):=
 ((h.map (F:=fun x=> .pair x a b) fun h=> .pair h (Par.rfl' _) (Par.rfl' _)).trans (k.map (F:=fun x=> .pair T' x b) fun h=> .pair (Par.rfl' _) h (Par.rfl' _))).trans (l.map (F:=fun x=> .pair T' a' x) fun h=> .pair (Par.rfl' _) (Par.rfl' _) h)
theorem Cv.move{T T' a a' b b':Tm}(h:Cv T T')(k:Cv a a')(l:Cv b b'):Cv (.move T a b) (.move T' a' b'):=
 ((h.map (F:=fun x=> .move x a b) fun h=> .move h (Par.rfl' _) (Par.rfl' _)).trans (k.map (F:=fun x=> .move T' x b) fun h=> .move (Par.rfl' _) h (Par.rfl' _))).trans (l.map (F:=fun x=> .move T' a' x) fun h=> .move (Par.rfl' _) (Par.rfl' _) h)
theorem Cv.elim{p p' z z' s s' a a':Tm}(h1:Cv p p')(h2:Cv z z')(h3:Cv s s')(h4:Cv a a'):Cv (.elim p z s a) (.elim p' z' s' a'):=
 (((h1.map (F:=fun x=> .elim x z s a) fun h=> .elim h (Par.rfl' _) (Par.rfl' _) (Par.rfl' _)).trans (h2.map (F:=fun x=> .elim p' x s a) fun h=> .elim (Par.rfl' _) h (Par.rfl' _) (Par.rfl' _))).trans (h3.map (F:=fun x=> .elim p' z' x a) fun h=> .elim (Par.rfl' _) (Par.rfl' _) h (Par.rfl' _))).trans (h4.map (F:=fun x=> .elim p' z' s' x) fun h=> .elim (Par.rfl' _) (Par.rfl' _) (Par.rfl' _) h)
theorem Cv.succ{a a':Tm}(h:Cv a a'):Cv (.succ a) (.succ a'):=h.map (F:=fun x=> .succ x) fun h=> .succ h
theorem Cv.refl{a a':Tm}(h:Cv a a'):Cv (.refl a) (.refl a'):=h.map (F:=fun x=> .refl x) fun h=> .refl h
theorem Cv.fst{a a':Tm}(h:Cv a a'):Cv (.fst a) (.fst a'):=h.map (F:=fun x=> .fst x) fun h=> .fst h
theorem Cv.snd{a a':Tm}(h:Cv a a'):Cv (.snd a) (.snd a'):=h.map (F:=fun x=> .snd x) fun h=> .snd h
theorem Cv.subs{s s':Nat->Tm}(h: ∀n,Cv (s n) (s' n))(t:Tm):Cv (t.sub s) (t.sub s'):=by
 have hu: ∀{s s':Nat->Tm},(∀n,Cv (s n) (s' n))-> ∀n,Cv (ups s n) (ups s' n):=by
  intro s s' h n;cases n with
  |zero=> exact Cv.rfl' _
  |succ n=> exact(h n).ren _
 induction t generalizing s s' with
 |var n=> exact h n
 |sort n=> exact Cv.rfl' _
 |nat=> exact Cv.rfl' _
 |zero=> exact Cv.rfl' _
 |pi A B i1 i2=> exact .pi (i1 h) (i2 (hu h))
 |sg A B i1 i2=> exact .sg (i1 h) (i2 (hu h))
 |lam A B i1 i2=> exact .lam (i1 h) (i2 (hu h))
 |app f a i1 i2=> exact .app (i1 h) (i2 h)
 |succ a i=> exact .succ (i h)
 |elim p z s a i1 i2 i3 i4=> exact .elim (i1 h) (i2 h) (i3 h) (i4 h)
 |id T a b i1 i2 i3=> exact .id (i1 h) (i2 h) (i3 h)
 |refl a i=> exact .refl (i h)
 |move T a b i1 i2 i3=> exact .move (i1 h) (i2 h) (i3 h)
 |pair T a b i1 i2 i3=> exact .pair (i1 h) (i2 h) (i3 h)
 |fst a i=> exact .fst (i h)
 |snd a i=> exact .snd (i h)
theorem Cv.cns{u u':Tm}{s s':Nat->Tm}(h:Cv u u')(k: ∀n,Cv (s n) (s' n)): ∀n,Cv (cns u s n) (cns u' s' n):=by
 intro n;cases n with
 |zero=> exact h
 |succ n=> exact k n
theorem Cv.inst{t t' u u':Tm}(h:Cv t t')(k:Cv u u'):Cv (t.inst u) (t'.inst u'):=
 (h.sub _).trans (Cv.subs (Cv.cns k fun n=> Cv.rfl' _) t')
inductive Hd:Tm->Tm->Prop where
 |beta (A b a):Hd (.app (.lam A b) a) (b.inst a)
 |ez (p z s):Hd (.elim p z s .zero) z
 |es (p z s a):Hd (.elim p z s (.succ a)) (.app (.app s a) (.elim p z s a))
 |mr (p b a):Hd (.move p (.refl b) a) a
 |fp (T a b):Hd (.fst (.pair T a b)) a
 |sp (T a b):Hd (.snd (.pair T a b)) b
 |app {f f'} (a):Hd f f'->Hd (.app f a) (.app f' a)
 |elim {a a'} (p z s):Hd a a'->Hd (.elim p z s a) (.elim p z s a')
 |move {e e'} (p a):Hd e e'->Hd (.move p e a) (.move p e' a)
 |fst {a a'}:Hd a a'->Hd (.fst a) (.fst a')
 |snd {a a'}:Hd a a'->Hd (.snd a) (.snd a')
def hk:Tm->Nat
 | .sort _=> 2
 | .pi _ _=> 3
 | .lam _ _=> 4
 | .nat=> 6
 | .zero=> 7
 | .succ _=> 8
 | .id _ _ _=> 10
 | .refl _=> 11
 | .sg _ _=> 13
 | .pair _ _ _=> 14
 |_=> 0
theorem Hd.hk{t u:Tm}(h:Hd t u):Go.Proofs.YtbnkbepgmenblaaGreatDoor.M.hk t=0:=by cases h <;> rfl
theorem Hd.det{t u:Tm}(h:Hd t u): ∀{v:Tm},Hd t v->u=v:=by
 induction h with
 |beta A b a=> intro v k;cases k with
  |beta=> rfl
  |app _ k=> cases k
 |ez p z s=> intro v k;cases k with
  |ez=> rfl
  |elim _ _ _ k=> cases k
 |es p z s a=> intro v k;cases k with
  |es=> rfl
  |elim _ _ _ k=> cases k
 |mr p b a=> intro v k;cases k with
  |mr=> rfl
  |move _ _ k=> cases k
 |fp T a b=> intro v k;cases k with
  |fp=> rfl
  |fst k=> cases k
 |sp T a b=> intro v k;cases k with
  |sp=> rfl
  |snd k=> cases k
 |app a h ih=> intro v k;cases k with
  |beta=> cases h
  |app _ k=> rw[ih k]
 |elim p z s h ih=> intro v k;cases k with
  |ez=> cases h
  |es=> cases h
  |elim _ _ _ k=> rw[ih k]
 |move p a h ih=> intro v k;cases k with
  |mr=> cases h
  |move _ _ k=> rw[ih k]
 |fst h ih=> intro v k;cases k with
  |fp=> cases h
  |fst k=> rw[ih k]
 |snd h ih=> intro v k;cases k with
  |sp=> cases h
  |snd k=> rw[ih k]
theorem Hd.par{t u:Tm}(h:Hd t u):Par t u:=by
 induction h with
 |beta A b a=> exact .beta (Par.rfl' _) (Par.rfl' _)
 |ez=> exact .ez (Par.rfl' _)
 |es=> exact .es (Par.rfl' _) (Par.rfl' _) (Par.rfl' _) (Par.rfl' _)
 |mr=> exact .mr (Par.rfl' _)
 |fp=> exact .fp (Par.rfl' _)
 |sp=> exact .sp (Par.rfl' _)
 |app a h ih=> exact .app ih (Par.rfl' _)
 |elim p z s h ih=> exact .elim (Par.rfl' _) (Par.rfl' _) (Par.rfl' _) ih
 |move p a h ih=> exact .move (Par.rfl' _) ih (Par.rfl' _)
 |fst h ih=> exact .fst ih
 |snd h ih=> exact .snd ih
theorem Hd.sub{t u:Tm}(h:Hd t u)(s:Nat->Tm):Hd (t.sub s) (u.sub s):=by
 induction h with
 |beta A b a=> rw[y29];exact .beta _ _ _
 |ez=> exact .ez _ _ _
 |es=> exact .es _ _ _ _
 |mr=> exact .mr _ _ _
 |fp=> exact .fp _ _ _
 |sp=> exact .sp _ _ _
 |app a h ih=> exact .app _ ih
 |elim p z s h ih=> exact .elim _ _ _ ih
 |move p a h ih=> exact .move _ _ ih
 |fst h ih=> exact .fst ih
 |snd h ih=> exact .snd ih
inductive HR:Tm->Tm->Prop where
 |refl (t):HR t t
 |step {a b c}:Hd a b->HR b c->HR a c
theorem HR.one{a b:Tm}(h:Hd a b):HR a b:= .step h (.refl b)
theorem HR.trans{a b c:Tm}(h:HR a b)(k:HR b c):HR a c:=by
 induction h with
 |refl=> exact k
 |step h1 _ ih=> exact .step h1 (ih k)
theorem HR.red{a b:Tm}(h:HR a b):Red a b:=by
 induction h with
 |refl=> exact .refl _
 |step h1 _ ih=> exact .step h1.par ih
theorem HR.cv{a b:Tm}(h:HR a b):Cv a b:=h.red.cv
theorem HR.map{F:Tm->Tm}(hF: ∀{a b},Hd a b->Hd (F a) (F b)){a b:Tm}(h:HR a b):HR (F a) (F b):=by
 induction h with
 |refl=> exact .refl _
 |step h1 _ ih=> exact .step (hF h1) ih
theorem HR.sub{a b:Tm}(h:HR a b)(s:Nat->Tm):HR (a.sub s) (b.sub s):=h.map (F:=fun t=> t.sub s) fun h=> h.sub s
theorem HR.ren{a b:Tm}(h:HR a b)(r:Nat->Nat):HR (a.ren r) (b.ren r):=by
 rw[q51,q51 b];exact h.sub _
theorem HR.det{a b:Tm}(h:HR a b): ∀{c:Tm},HR a c->hk b≠0->hk c≠0->b=c:=by
 induction h with
 |refl t=>
  intro c k hb hc;cases k with
  |refl=> rfl
  |step k _=> exact absurd k.hk hb
 |step h1 h2 ih=>
  intro c k hb hc;cases k with
  |refl=> exact absurd h1.hk hc
  |step k1 k2=>
   obtain rfl:=h1.det k1;exact ih k2 hb hc
theorem HR.after{a b:Tm}(h:HR a b): ∀{c:Tm},HR a c->hk c≠0->HR b c:=by
 induction h with
 |refl t=> intro c k _;exact k
 |step h1 h2 ih=>
  intro c k hc;cases k with
  |refl=> exact absurd h1.hk hc
  |step k1 k2=>
   obtain rfl:=h1.det k1;exact ih k2 hc
inductive Ip:Tm->Tm->Prop where
 |var (n):Ip (.var n) (.var n)
 |sort (n):Ip (.sort n) (.sort n)
 |pi {A A' B B'}:Par A A'->Par B B'->Ip (.pi A B) (.pi A' B')
 |lam {A A' B B'}:Par A A'->Par B B'->Ip (.lam A B) (.lam A' B')
 |app {A A' B B'}:Ip A A'->Par B B'->Ip (.app A B) (.app A' B')
 |nat:Ip .nat .nat
 |zero:Ip .zero .zero
 |succ {a a'}:Par a a'->Ip (.succ a) (.succ a')
 |elim {p p' z z' s s' a a'}:Par p p'->Par z z'->Par s s'->Ip a a'->Ip (.elim p z s a) (.elim p' z' s' a')
 |id {T T' a a' b b'}:Par T T'->Par a a'->Par b b'->Ip (.id T a b) (.id T' a' b')
 |refl {a a'}:Par a a'->Ip (.refl a) (.refl a')
 |move {T T' a a' b b'}:Par T T'->Ip a a'->Par b b'->Ip (.move T a b) (.move T' a' b')
 |sg {A A' B B'}:Par A A'->Par B B'->Ip (.sg A B) (.sg A' B')
 |pair {T T' a a' b b'}:Par T T'->Par a a'->Par b b'->Ip (.pair T a b) (.pair T' a' b')
 |fst {a a'}:Ip a a'->Ip (.fst a) (.fst a')
 |snd {a a'}:Ip a a'->Ip (.snd a) (.snd a')
def Fc(t t':Tm):Prop:= ∃s,HR t s/\Ip s t'
theorem Ip.sub{t t':Tm}(h:Ip t t'){s s':Nat->Tm}(hs: ∀n,Par (s n) (s' n))(hf: ∀n,Fc (s n) (s' n)):Fc (t.sub s) (t'.sub s'):=by
 induction h with
 |var n=> exact hf n
 |sort n=> exact⟨_,.refl _,.sort n⟩
 |nat=> exact⟨_,.refl _,.nat⟩
 |zero=> exact⟨_,.refl _,.zero⟩
 |pi h1 h2=> exact⟨_,.refl _,.pi (h1.sub hs) (h2.sub (Par.ups hs))⟩
 |lam h1 h2=> exact⟨_,.refl _,.lam (h1.sub hs) (h2.sub (Par.ups hs))⟩
 |sg h1 h2=> exact⟨_,.refl _,.sg (h1.sub hs) (h2.sub (Par.ups hs))⟩
 |succ h1=> exact⟨_,.refl _,.succ (h1.sub hs)⟩
 |refl h1=> exact⟨_,.refl _,.refl (h1.sub hs)⟩
 |id h1 h2 h3=> exact⟨_,.refl _,.id (h1.sub hs) (h2.sub hs) (h3.sub hs)⟩
 |pair h1 h2 h3=> exact⟨_,.refl _,.pair (h1.sub hs) (h2.sub hs) (h3.sub hs)⟩
 |app h1 h2 ih=>
  obtain⟨u,k1,k2⟩:=ih;exact⟨_,k1.map (F:=fun x=> .app x _) fun h=> .app _ h,.app k2 (h2.sub hs)⟩
 |elim h1 h2 h3 h4 ih=>
  obtain⟨u,k1,k2⟩:=ih;exact⟨_,k1.map (F:=fun x=> .elim _ _ _ x) fun h=> .elim _ _ _ h,.elim (h1.sub hs) (h2.sub hs) (h3.sub hs) k2⟩
 |move h1 h2 h3 ih=>
  obtain⟨u,k1,k2⟩:=ih;exact⟨_,k1.map (F:=fun x=> .move _ x _) fun h=> .move _ _ h,.move (h1.sub hs) k2 (h3.sub hs)⟩
 |fst h1 ih=>
  obtain⟨u,k1,k2⟩:=ih;exact⟨_,k1.map (F:=fun x=> .fst x) fun h=> .fst h,.fst k2⟩
 |snd h1 ih=>
  obtain⟨u,k1,k2⟩:=ih;exact⟨_,k1.map (F:=fun x=> .snd x) fun h=> .snd h,.snd k2⟩
theorem Par.fc{t t':Tm}(h:Par t t'):Fc t t':=by
 induction h with
 |var n=> exact⟨_,.refl _,.var n⟩
 |sort n=> exact⟨_,.refl _,.sort n⟩
 |nat=> exact⟨_,.refl _,.nat⟩
 |zero=> exact⟨_,.refl _,.zero⟩
 |pi h1 h2=> exact⟨_,.refl _,.pi h1 h2⟩
 |lam h1 h2=> exact⟨_,.refl _,.lam h1 h2⟩
 |sg h1 h2=> exact⟨_,.refl _,.sg h1 h2⟩
 |succ h1=> exact⟨_,.refl _,.succ h1⟩
 |refl h1=> exact⟨_,.refl _,.refl h1⟩
 |id h1 h2 h3=> exact⟨_,.refl _,.id h1 h2 h3⟩
 |pair h1 h2 h3=> exact⟨_,.refl _,.pair h1 h2 h3⟩
 |app h1 h2 i1 i2=>
  obtain⟨u,k1,k2⟩:=i1;exact⟨_,k1.map (F:=fun x=> .app x _) fun h=> .app _ h,.app k2 h2⟩
 |elim h1 h2 h3 h4 i1 i2 i3 ih=>
  obtain⟨u,k1,k2⟩:=ih;exact⟨_,k1.map (F:=fun x=> .elim _ _ _ x) fun h=> .elim _ _ _ h,.elim h1 h2 h3 k2⟩
 |move h1 h2 h3 i1 ih i3=>
  obtain⟨u,k1,k2⟩:=ih;exact⟨_,k1.map (F:=fun x=> .move _ x _) fun h=> .move _ _ h,.move h1 k2 h3⟩
 |fst h1 ih=>
  obtain⟨u,k1,k2⟩:=ih;exact⟨_,k1.map (F:=fun x=> .fst x) fun h=> .fst h,.fst k2⟩
 |snd h1 ih=>
  obtain⟨u,k1,k2⟩:=ih;exact⟨_,k1.map (F:=fun x=> .snd x) fun h=> .snd h,.snd k2⟩
 | @beta A b b' a a' h1 h2 i1 i2=>
  obtain⟨u,k1,k2⟩:=i1;have h3:=k2.sub (Par.cns h2) (fun n=> by
   cases n with
   |zero=> exact i2
   |succ n=> exact⟨_,.refl _,.var n⟩)
  obtain⟨v,l1,l2⟩:=h3;exact⟨v,.step (.beta A b a) ((k1.sub _).trans l1),l2⟩
 |ez h ih=>
  obtain⟨u,k1,k2⟩:=ih;exact⟨u,.step (.ez _ _ _) k1,k2⟩
 |es h1 h2 h3 h4 i1 i2 i3 i4=>
  obtain⟨u,k1,k2⟩:=i3;exact⟨_,.step (.es _ _ _ _) (k1.map (F:=fun x=> .app (.app x _) _) fun h=> .app _ (.app _ h)),.app (.app k2 h4) (.elim h1 h2 h3 h4)⟩
 |mr h ih=>
  obtain⟨u,k1,k2⟩:=ih;exact⟨u,.step (.mr _ _ _) k1,k2⟩
 |fp h ih=>
  obtain⟨u,k1,k2⟩:=ih;exact⟨u,.step (.fp _ _ _) k1,k2⟩
 |sp h ih=>
  obtain⟨u,k1,k2⟩:=ih;exact⟨u,.step (.sp _ _ _) k1,k2⟩
theorem Ip.par{s t:Tm}(h:Ip s t):Par s t:=by
 induction h <;> constructor <;> assumption
theorem Ip.hd{t u:Tm}(k:Hd t u): ∀{s:Tm},Ip s t-> ∃s',Hd s s'/\Par s' u:=by
 induction k with
 |beta A b a=>
  intro s h;cases h with
  |app h1 h2=>
   cases h1 with
   |lam h3 h4=> exact⟨_,.beta _ _ _,h4.inst h2⟩
 |ez p z s=>
  intro s h;cases h with
  |elim h1 h2 h3 h4=>
   cases h4
   exact⟨_,.ez _ _ _,h2⟩
 |es p z s a=>
  intro s h;cases h with
  |elim h1 h2 h3 h4=>
   cases h4 with
   |succ h5=> exact⟨_,.es _ _ _ _,.app (.app h3 h5) (.elim h1 h2 h3 h5)⟩
 |mr p b a=>
  intro s h;cases h with
  |move h1 h2 h3=>
   cases h2 with
   |refl h4=> exact⟨_,.mr _ _ _,h3⟩
 |fp T a b=>
  intro s h;cases h with
  |fst h1=>
   cases h1 with
   |pair h2 h3 h4=> exact⟨_,.fp _ _ _,h3⟩
 |sp T a b=>
  intro s h;cases h with
  |snd h1=>
   cases h1 with
   |pair h2 h3 h4=> exact⟨_,.sp _ _ _,h4⟩
 |app a k ih=>
  intro s h;cases h with
  |app h1 h2=>
   obtain⟨s',k1,k2⟩:=ih h1;exact⟨_,.app _ k1,.app k2 h2⟩
 |elim p z s k ih=>
  intro s h;cases h with
  |elim h1 h2 h3 h4=>
   obtain⟨s',k1,k2⟩:=ih h4;exact⟨_,.elim _ _ _ k1,.elim h1 h2 h3 k2⟩
 |move p a k ih=>
  intro s h;cases h with
  |move h1 h2 h3=>
   obtain⟨s',k1,k2⟩:=ih h2;exact⟨_,.move _ _ k1,.move h1 k2 h3⟩
 |fst k ih=>
  intro s h;cases h with
  |fst h1=>
   obtain⟨s',k1,k2⟩:=ih h1;exact⟨_,.fst k1,.fst k2⟩
 |snd k ih=>
  intro s h;cases h with
  |snd h1=>
   obtain⟨s',k1,k2⟩:=ih h1;exact⟨_,.snd k1,.snd k2⟩
theorem Par.hr{t1 t2:Tm}(k:HR t1 t2): ∀{t:Tm},Par t t1-> ∃t',HR t t'/\Par t' t2:=by
 induction k with
 |refl=> intro t h;exact⟨t,.refl t,h⟩
 |step h1 h2 ih=>
  intro t h;obtain⟨s,k1,k2⟩:=h.fc;obtain⟨s',l1,l2⟩:=k2.hd h1;obtain⟨t',m1,m2⟩:=ih l2;exact⟨t',(k1.trans (.one l1)).trans m1,m2⟩
theorem Ip.hk{s t:Tm}(h:Ip s t):Go.Proofs.YtbnkbepgmenblaaGreatDoor.M.hk s=Go.Proofs.YtbnkbepgmenblaaGreatDoor.M.hk t:=by cases h <;> rfl
theorem Par.hk{s t:Tm}(h:Par s t)(hs:Go.Proofs.YtbnkbepgmenblaaGreatDoor.M.hk s≠0):Go.Proofs.YtbnkbepgmenblaaGreatDoor.M.hk t=Go.Proofs.YtbnkbepgmenblaaGreatDoor.M.hk s:=by
 cases h <;> first|rfl|exact absurd rfl hs
theorem Red.hk{s t:Tm}(h:Red s t)(hs:Go.Proofs.YtbnkbepgmenblaaGreatDoor.M.hk s≠0):Go.Proofs.YtbnkbepgmenblaaGreatDoor.M.hk t=Go.Proofs.YtbnkbepgmenblaaGreatDoor.M.hk s:=by
 induction h with
 |refl=> rfl
 |step h1 _ ih=> rw[ih (by rw[h1.hk hs];exact hs),h1.hk hs]
theorem Red.can{t c:Tm}(h:Red t c)(hc:Go.Proofs.YtbnkbepgmenblaaGreatDoor.M.hk c≠0): ∃c0,HR t c0/\Go.Proofs.YtbnkbepgmenblaaGreatDoor.M.hk c0=Go.Proofs.YtbnkbepgmenblaaGreatDoor.M.hk c/\Red c0 c:=by
 induction h with
 |refl t=> exact⟨t,.refl t,rfl,.refl t⟩
 |step h1 h2 ih=>
  obtain⟨c1,k1,k2,k3⟩:=ih hc;obtain⟨t',l1,l2⟩:=Par.hr k1 h1;obtain⟨s,m1,m2⟩:=l2.fc;exact⟨s,l1.trans m1,m2.hk.trans k2,.step m2.par k3⟩
theorem Cv.can{t c:Tm}(h:Cv t c)(hc:Go.Proofs.YtbnkbepgmenblaaGreatDoor.M.hk c≠0): ∃c0,HR t c0/\Go.Proofs.YtbnkbepgmenblaaGreatDoor.M.hk c0=Go.Proofs.YtbnkbepgmenblaaGreatDoor.M.hk c/\Cv c0 c:=by
 obtain⟨d,h1,h2⟩:=h;have hd:=h2.hk hc;obtain⟨c0,k1,k2,k3⟩:=h1.can (by rw[hd];exact hc);exact⟨c0,k1,k2.trans hd,d,k3,h2⟩
theorem Red.pi_inv{A B c:Tm}(h:Red (.pi A B) c): ∃A' B',c= .pi A' B'/\Red A A'/\Red B B':=by
 generalize ht:Tm.pi A B=t at h
 induction h generalizing A B with
 |refl=> exact⟨A,B,ht.symm,.refl _,.refl _⟩
 |step h1 _ ih=>
  subst ht;cases h1 with
  |pi k1 k2=>
   obtain⟨A',B',e,l1,l2⟩:=ih rfl;exact⟨A',B',e,.step k1 l1,.step k2 l2⟩
theorem Red.sg_inv{A B c:Tm}(h:Red (.sg A B) c): ∃A' B',c= .sg A' B'/\Red A A'/\Red B B':=by
 generalize ht:Tm.sg A B=t at h
 induction h generalizing A B with
 |refl=> exact⟨A,B,ht.symm,.refl _,.refl _⟩
 |step h1 _ ih=>
  subst ht;cases h1 with
  |sg k1 k2=>
   obtain⟨A',B',e,l1,l2⟩:=ih rfl;exact⟨A',B',e,.step k1 l1,.step k2 l2⟩
theorem Red.id_inv{T a b c:Tm}(h:Red (.id T a b) c): ∃T' a' b',c= .id T' a' b'/\Red T T'/\Red a a'/\Red b b':=by
 generalize ht:Tm.id T a b=t at h
 induction h generalizing T a b with
 |refl=> exact⟨T,a,b,ht.symm,.refl _,.refl _,.refl _⟩
 |step h1 _ ih=>
  subst ht;cases h1 with
  |id k1 k2 k3=>
   obtain⟨A',B',C',e,l1,l2,l3⟩:=ih rfl;exact⟨A',B',C',e,.step k1 l1,.step k2 l2,.step k3 l3⟩
theorem Red.sort_inv{n:Nat}{c:Tm}(h:Red (.sort n) c):c= .sort n:=by
 generalize ht:Tm.sort n=t at h
 induction h with
 |refl=> rfl
 |step h1 _ ih=> subst ht;cases h1;exact ih rfl
theorem Red.nat_inv{c:Tm}(h:Red .nat c):c= .nat:=by
 generalize ht:Tm.nat=t at h
 induction h with
 |refl=> rfl
 |step h1 _ ih=> subst ht;cases h1;exact ih rfl
theorem Cv.pi_inj{A B A' B':Tm}(h:Cv (.pi A B) (.pi A' B')):Cv A A'/\Cv B B':=by
 obtain⟨c,h1,h2⟩:=h;obtain⟨X,Y,rfl,k1,k2⟩:=h1.pi_inv;obtain⟨X',Y',e,l1,l2⟩:=h2.pi_inv;simp only[Tm.pi.injEq] at e;obtain⟨rfl,rfl⟩:=e;exact⟨⟨_,k1,l1⟩,⟨_,k2,l2⟩⟩
theorem Cv.sg_inj{A B A' B':Tm}(h:Cv (.sg A B) (.sg A' B')):Cv A A'/\Cv B B':=by
 obtain⟨c,h1,h2⟩:=h;obtain⟨X,Y,rfl,k1,k2⟩:=h1.sg_inv;obtain⟨X',Y',e,l1,l2⟩:=h2.sg_inv;simp only[Tm.sg.injEq] at e;obtain⟨rfl,rfl⟩:=e;exact⟨⟨_,k1,l1⟩,⟨_,k2,l2⟩⟩
theorem Cv.id_inj{T a b T' a' b':Tm}(h:Cv (.id T a b) (.id T' a' b')):Cv T T'/\Cv a a'/\Cv b b':=by
 obtain⟨c,h1,h2⟩:=h;obtain⟨X,Y,Z,rfl,k1,k2,k3⟩:=h1.id_inv;obtain⟨X',Y',Z',e,l1,l2,l3⟩:=h2.id_inv;simp only[Tm.id.injEq] at e;obtain⟨rfl,rfl,rfl⟩:=e;exact⟨⟨_,k1,l1⟩,⟨_,k2,l2⟩,⟨_,k3,l3⟩⟩
theorem Cv.sort_inj{n m:Nat}(h:Cv (.sort n) (.sort m)):n=m:=by
 obtain⟨c,h1,h2⟩:=h;have:=h1.sort_inv.symm.trans h2.sort_inv
 simpa using this
theorem Cv.hk{a b:Tm}(h:Cv a b)(ha:Go.Proofs.YtbnkbepgmenblaaGreatDoor.M.hk a≠0)(hb:Go.Proofs.YtbnkbepgmenblaaGreatDoor.M.hk b≠0):Go.Proofs.YtbnkbepgmenblaaGreatDoor.M.hk a=Go.Proofs.YtbnkbepgmenblaaGreatDoor.M.hk b:=by
 obtain⟨c,h1,h2⟩:=h;exact(h1.hk ha).symm.trans (h2.hk hb)
theorem Cv.to_pi{T C R:Tm}(h:Cv T (.pi C R)): ∃C' R',HR T (.pi C' R')/\Cv C' C/\Cv R' R:=by
 obtain⟨c,h1,h2,h3⟩:=h.can (by simp[Go.Proofs.YtbnkbepgmenblaaGreatDoor.M.hk]);cases c <;> simp only[Go.Proofs.YtbnkbepgmenblaaGreatDoor.M.hk] at h2 <;> first|omega|(obtain⟨k1,k2⟩:=h3.pi_inj;exact⟨_,_,h1,k1,k2⟩)
theorem Cv.to_sg{T C R:Tm}(h:Cv T (.sg C R)): ∃C' R',HR T (.sg C' R')/\Cv C' C/\Cv R' R:=by
 obtain⟨c,h1,h2,h3⟩:=h.can (by simp[Go.Proofs.YtbnkbepgmenblaaGreatDoor.M.hk]);cases c <;> simp only[Go.Proofs.YtbnkbepgmenblaaGreatDoor.M.hk] at h2 <;> first|omega|(obtain⟨k1,k2⟩:=h3.sg_inj;exact⟨_,_,h1,k1,k2⟩)
theorem Cv.to_id{T X a b:Tm}(h:Cv T (.id X a b)): ∃X' a' b',HR T (.id X' a' b')/\Cv X' X/\Cv a' a/\Cv b' b:=by
 obtain⟨c,h1,h2,h3⟩:=h.can (by simp[Go.Proofs.YtbnkbepgmenblaaGreatDoor.M.hk]);cases c <;> simp only[Go.Proofs.YtbnkbepgmenblaaGreatDoor.M.hk] at h2 <;> first|omega|(obtain⟨k1,k2,k3⟩:=h3.id_inj;exact⟨_,_,_,h1,k1,k2,k3⟩)
theorem Cv.to_sort{T:Tm}{n:Nat}(h:Cv T (.sort n)):HR T (.sort n):=by
 obtain⟨c,h1,h2,h3⟩:=h.can (by simp[Go.Proofs.YtbnkbepgmenblaaGreatDoor.M.hk]);cases c <;> simp only[Go.Proofs.YtbnkbepgmenblaaGreatDoor.M.hk] at h2 <;> first|omega|(rw[h3.sort_inj] at h1;exact h1)
theorem Cv.to_nat{T:Tm}(h:Cv T .nat):HR T .nat:=by
 obtain⟨c,h1,h2,h3⟩:=h.can (by simp[Go.Proofs.YtbnkbepgmenblaaGreatDoor.M.hk]);cases c <;> simp only[Go.Proofs.YtbnkbepgmenblaaGreatDoor.M.hk] at h2 <;> first|omega|exact h1
end Go.Proofs.YtbnkbepgmenblaaGreatDoor.M
